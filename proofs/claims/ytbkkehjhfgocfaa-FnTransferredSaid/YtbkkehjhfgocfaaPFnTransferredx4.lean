/- Written by this repo's own copy of a print: plain functions beneath a law, and the proof that the program computes them; no condition. -/
import Derived.Test.YtbkkehjhfgocfaaPFnTransferredx0
import Derived.Test.YtbkkehjhfgocfaaPFnTransferredx2
import Derived.Test.YtbkkehjhfgocfaaPFnTransferredx3
namespace Go.Proofs.Ytbkkehjhfgocfaa.PFnTransferred
open Go.RowKit Go.Proofs.YtbkkehjhfgocfaaW.PrintWords Go.Proofs.YtbkkehjhfgocfaaW.PrintLast Go.Proofs.YtbkkehjhfgocfaaW.PrintMore
attribute [local go_sem] max2_int min2_int max_two min_two max_three min_three max_four min_four   -- for this text's walks alone
set_option linter.unusedVariables false
set_option linter.unusedSimpArgs false

/-! ### spec_Balance: function 103 -/
def spec_Balance.l0 : Nat → Int → Int → List (S36) → Option (Int × (List (S36)))
 | 0, _, _, _ => none
 | k + 1, x4, x197000, x197001 => if x4 ≥ 0 then ((spec_l05Coarser.f x197000 x197001 x4).bind fun t199 => ((spec_l05Split.f x197000 x197001 t199).bind fun bt200 => ((spec_l05First.f k bt200.1 bt200.2).bind fun t204 => (spec_Balance.l0 k t204 bt200.1 bt200.2)))) else (some (x197000, x197001))
def spec_Balance.f (k : Nat) (a0_0 : Int) (l0_1 : List (S36)) : Option (Int × (List (S36))) := (spec_l04Copy.f a0_0 l0_1).bind fun bt192 => ((spec_MeshOk.f k a0_0 l0_1).bind fun t197 => (if t197 = true then ((spec_l05First.f k bt192.1 bt192.2).bind fun t198 => (spec_Balance.l0 k t198 bt192.1 bt192.2)) else (some (bt192.1, bt192.2))))
theorem spec_Balance.mono_l : ∀ k, (∀ y0 y1 y2, LeO (spec_Balance.l0 k y0 y1 y2) (spec_Balance.l0 (k + 1) y0 y1 y2))
 | 0 => fun _ _ _ r h => by simp [spec_Balance.l0] at h
 | k + 1 => by
  have ih0 := spec_Balance.mono_l k
  ·
   intro y0 y1 y2
   unfold spec_Balance.l0
   repeat' first
   | (with_reducible exact ih0 _ _ _)
   | (with_reducible exact spec_MeshOk.mono _ _ _)
   | (with_reducible exact spec_l05First.mono _ _ _)
   | (with_reducible exact LeO.refl _)
   | (with_reducible exact LeO.none _)
   | (with_reducible refine LeO.ite ?_ ?_)
   | (with_reducible refine LeO.bind ?_ (fun _ => ?_))
   | exact ih0 _ _ _
   | exact spec_MeshOk.mono _ _ _
   | exact spec_l05First.mono _ _ _
   | exact LeO.none _
   | refine LeO.ite ?_ ?_
   | refine LeO.bind ?_ (fun _ => ?_)
theorem spec_Balance.mono : ∀ a0 a1 k, LeO (spec_Balance.f k a0 a1) (spec_Balance.f (k + 1) a0 a1) := by
 intro a0 a1 k
 have ih0 := spec_Balance.mono_l k
 unfold spec_Balance.f
 repeat' first
   | (with_reducible exact ih0 _ _ _)
   | (with_reducible exact spec_MeshOk.mono _ _ _)
   | (with_reducible exact spec_l05First.mono _ _ _)
   | (with_reducible exact LeO.refl _)
   | (with_reducible exact LeO.none _)
   | (with_reducible refine LeO.ite ?_ ?_)
   | (with_reducible refine LeO.bind ?_ (fun _ => ?_))
   | exact ih0 _ _ _
   | exact spec_MeshOk.mono _ _ _
   | exact spec_l05First.mono _ _ _
   | exact LeO.none _
   | refine LeO.ite ?_ ?_
   | refine LeO.bind ?_ (fun _ => ?_)
set_option maxHeartbeats 8000000 in
set_option maxRecDepth 100000 in
theorem spec_Balance.calls (k : Nat) (a0_0 : Int) (A0_1 : Option Addr) (c0_1 : Nat) (l0_1 : List (S36)) (r1 : Int) (r2 : List (S36)) (w : World) (hr0_1 : Kd.C k36 w A0_1 l0_1.length l0_1) (hc0_1 : l0_1.length ≤ c0_1) (h : spec_Balance.f k a0_0 l0_1 = some (r1, r2)) :
  Calls Try.prog 103 #[.agg #[.int .i64 a0_0, .slice A0_1 l0_1.length c0_1]] w fun e w' => ∃ v1_ : Value, e = .returned (.agg #[.int .i64 r1, v1_]) ∧ Kd.R k36 36 w' w.heap.size (fun _ => True) v1_ r2 ∧ Below w.heap.size w w' := by
 have hu26 := Try.underlying26
 have HR0_1 := Aside0.mk hr0_1
 have HC0_1 := Aside0.mk hc0_1
 clear hr0_1 hc0_1
 have HB := Aside0.mk (Below.refl w.heap.size w)
 have H : ((spec_l04Copy.f a0_0 l0_1).bind fun bt192 => ((spec_MeshOk.f k a0_0 l0_1).bind fun t197 => (if t197 = true then ((spec_l05First.f k bt192.1 bt192.2).bind fun t198 => (spec_Balance.l0 k t198 bt192.1 bt192.2)) else (some (bt192.1, bt192.2))))) = some (r1, r2) := h
 clear h
 replace H := Option.bind_eq_some_iff.mp H
 obtain ⟨⟨t192, t193⟩, A20, H⟩ := H
 (try dsimp only at H)
 have A2 := Aside0.mk A20
 clear A20
 replace H := Option.bind_eq_some_iff.mp H
 obtain ⟨t197, A30, H⟩ := H
 (try dsimp only at H)
 have A3 := Aside0.mk A30
 clear A30
 by_cases c4 : t197 = true
 ·
  subst c4
  have H1 := H; rw [if_pos rfl] at H1
  clear H
  have H := H1
  clear H1
  replace H := Option.bind_eq_some_iff.mp H
  obtain ⟨t198, A50, H⟩ := H
  (try dsimp only at H)
  have A5 := Aside0.mk A50
  clear A50
  have H' := Aside0.mk H
  clear H
  go_enter Try.func103, Try.ntmps103
  go_wp2_with (first | ((with_reducible refine gate_dst (N := 1) rfl ?_); refine bxe_ 1 #[.int .i64 a0_0, .slice A0_1 l0_1.length c0_1] 26 ?_; intro gb190 hg w6 hbox hb; have n0_ := Aside0.mk (bst_ HB.out hb); have n1_ := Aside0.mk (hbox); have n2_ := Aside0.mk (gz_ hg (bsz_ HB.out)); have n3_ := Aside0.mk (gz_ hg (bsz_ HB.out)); clear HB; have HB := n0_; have BK190 := n1_; have GW190 := n2_; have GE190 := n3_; clear n0_ n1_ n2_ n3_; clear hb hbox hg) | ((with_reducible refine gate_dst (N := 2) rfl ?_); refine bxe_ 2 #[.int .i64 0, .slice none 0 0] 26 ?_; intro gb191 hg w7 hbox hb; have n0_ := Aside0.mk (blk_bel BK190.out hb); have n1_ := Aside0.mk (cBs_ HB.out hb); have n2_ := Aside0.mk (hbox); have n3_ := Aside0.mk (gz_ hg (cBz_ HB.out)); have n4_ := Aside0.mk (gz_ hg (cBz_ HB.out)); have n5_ := Aside0.mk ((by rw [hg]; exact Nat.ne_of_lt (blk_lt (g := gb190) (o := .cells #[.int .i64 a0_0, .slice A0_1 l0_1.length c0_1] 26 (0, 0)) (cb_ BK190.out)) : gb190 ≠ gb191)); have n6_ := Aside0.mk ((by rw [hg]; exact Nat.ne_of_gt (blk_lt (g := gb190) (o := .cells #[.int .i64 a0_0, .slice A0_1 l0_1.length c0_1] 26 (0, 0)) (cb_ BK190.out)) : gb191 ≠ gb190)); clear BK190; clear HB; have BK190 := n0_; have HB := n1_; have BK191 := n2_; have GW191 := n3_; have GE191 := n4_; have NB190_191 := n5_; have NB191_190 := n6_; clear n0_ n1_ n2_ n3_ n4_ n5_ n6_; clear hb hbox hg; have hnb8 := NB190_191.out; have hnc8 := NB191_190.out; have hcz9 := cl2_ BK190.out; have hfz9 := fr2_ BK190.out) | ((with_reducible refine gate_callee (f := 80) rfl ?_); refine goesL_ (some 6) rfl rfl Try.func80 (by kernel_rfl) rfl #[.agg #[.int .i64 a0_0, .slice A0_1 l0_1.length c0_1]] rfl (by (try simp only [List.map_toArray, List.map_cons, List.map_nil]); first | done | rfl | (simp only [List.length_drop, List.length_take]; rfl)) ?_; (with_reducible refine (spec_l04Copy.calls a0_0 _ _ l0_1 t192 t193 _ ?side1 ?side2 A2.out).mono ?_); (case side1 => exact cC_ HR0_1.out HB.out); (case side2 => exact HC0_1.out); rintro e w10 ⟨v194, rfl, ho0, hb⟩; refine ⟨_, rfl, ?_⟩; have n0_ := Aside0.mk (Kd.R_lower ho0 (cBz_ HB.out)); have n1_ := Aside0.mk (blk_bel BK190.out hb); have n2_ := Aside0.mk (blk_bel BK191.out hb); have n3_ := Aside0.mk (cBs_ HB.out hb); clear BK190; clear BK191; clear HB; have HO195 := n0_; have BK190 := n1_; have BK191 := n2_; have HB := n3_; clear n0_ n1_ n2_ n3_; (try clear hb); (try clear hb2); (try clear hk); (try clear hi); (try clear ho0)) | ((with_reducible refine gate_dst (N := 3) rfl ?_); refine bxe_ 3 #[.int .i64 0, .slice none 0 0] 26 ?_; intro gb196 hg w11 hbox hb; have n0_ := Aside0.mk (R_bel HO195.out hb); have n1_ := Aside0.mk (blk_bel BK190.out hb); have n2_ := Aside0.mk (blk_bel BK191.out hb); have n3_ := Aside0.mk (cBs_ HB.out hb); have n4_ := Aside0.mk (hbox); have n5_ := Aside0.mk (gz_ hg (cBz_ HB.out)); have n6_ := Aside0.mk (gz_ hg (cBz_ HB.out)); have n7_ := Aside0.mk ((by rw [hg]; exact Nat.ne_of_lt (blk_lt (g := gb190) (o := .cells #[.int .i64 a0_0, .slice A0_1 l0_1.length c0_1] 26 (0, 0)) (cb_ BK190.out)) : gb190 ≠ gb196)); have n8_ := Aside0.mk ((by rw [hg]; exact Nat.ne_of_gt (blk_lt (g := gb190) (o := .cells #[.int .i64 a0_0, .slice A0_1 l0_1.length c0_1] 26 (0, 0)) (cb_ BK190.out)) : gb196 ≠ gb190)); have n9_ := Aside0.mk ((by rw [hg]; exact Nat.ne_of_lt (blk_lt (g := gb191) (o := .cells #[.int .i64 0, .slice none 0 0] 26 (0, 0)) (cb_ BK191.out)) : gb191 ≠ gb196)); have n10_ := Aside0.mk ((by rw [hg]; exact Nat.ne_of_gt (blk_lt (g := gb191) (o := .cells #[.int .i64 0, .slice none 0 0] 26 (0, 0)) (cb_ BK191.out)) : gb196 ≠ gb191)); clear HO195; clear BK190; clear BK191; clear HB; have HO195 := n0_; have BK190 := n1_; have BK191 := n2_; have HB := n3_; have BK196 := n4_; have GW196 := n5_; have GE196 := n6_; have NB190_196 := n7_; have NB196_190 := n8_; have NB191_196 := n9_; have NB196_191 := n10_; clear n0_ n1_ n2_ n3_ n4_ n5_ n6_ n7_ n8_ n9_ n10_; clear hb hbox hg; have hnb12 := NB196_190.out; have hnc12 := NB190_196.out; have hnb13 := NB196_191.out; have hnc13 := NB191_196.out; have hcz14 := cl2_ BK196.out; have hfz14 := fr2_ BK196.out; obtain ⟨Ao15, co15, eo15⟩ := Kd.R_slice HO195.out; subst eo15; have hcz16 := cl2_ BK190.out; have hfz16 := fr2_ BK190.out) | ((with_reducible refine gate_callee (f := 57) rfl ?_); refine goesL_ (some 8) rfl rfl Try.func57 (by kernel_rfl) rfl #[.agg #[.int .i64 a0_0, .slice A0_1 l0_1.length c0_1]] rfl (by (try simp only [List.map_toArray, List.map_cons, List.map_nil]); first | done | rfl | (simp only [List.length_drop, List.length_take]; rfl)) ?_; (with_reducible refine (spec_MeshOk.calls k a0_0 _ _ l0_1 true _ ?side1 ?side2 A3.out).mono ?_); (case side1 => exact Kd.C_below HR0_1.out (cB_ HB.out)); (case side2 => exact HC0_1.out); rintro e w17 ⟨rfl, hb⟩; refine ⟨_, rfl, ?_⟩; have n0_ := Aside0.mk (Kd.R_below (by (with_reducible repeat first | apply Kd.R_alloc | apply Kd.R_drewN | apply Kd.R_drew); exact (R_far2 HO195.out BK196.out)) hb); have n1_ := Aside0.mk (blk_below (g := gb190) (o := .cells #[.int .i64 a0_0, .slice A0_1 l0_1.length c0_1] 26 (0, 0)) (by (with_reducible repeat first | apply blk_drewN | apply blk_drew | apply blk_alloc); refine blk_far ?_ NB190_196.out _; (with_reducible repeat first | apply blk_drewN | apply blk_drew | apply blk_alloc); refine blk_far ?_ NB190_196.out _; (with_reducible repeat first | apply blk_drewN | apply blk_drew | apply blk_alloc); exact BK190.out) hb); have n2_ := Aside0.mk (blk_below (g := gb191) (o := .cells #[.int .i64 0, .slice none 0 0] 26 (0, 0)) (by (with_reducible repeat first | apply blk_drewN | apply blk_drew | apply blk_alloc); refine blk_far ?_ NB191_196.out _; (with_reducible repeat first | apply blk_drewN | apply blk_drew | apply blk_alloc); refine blk_far ?_ NB191_196.out _; (with_reducible repeat first | apply blk_drewN | apply blk_drew | apply blk_alloc); exact BK191.out) hb); have n3_ := Aside0.mk (blk_below (g := gb196) (o := .cells #[.int .i64 t192, .slice Ao15 t193.length co15] 26 (0, 0)) (by (with_reducible repeat first | apply blk_drewN | apply blk_drew | apply blk_alloc); refine blk_put (cs := #[.int .i64 t192, .slice none 0 0]) ?_ 1 _ rfl; (with_reducible repeat first | apply blk_drewN | apply blk_drew | apply blk_alloc); refine blk_put (cs := #[.int .i64 0, .slice none 0 0]) ?_ 0 _ rfl; (with_reducible repeat first | apply blk_drewN | apply blk_drew | apply blk_alloc); exact BK196.out) hb); have n4_ := Aside0.mk (cBs_ HB.out hb); clear HO195; clear BK190; clear BK191; clear BK196; clear HB; have HO195 := n0_; have BK190 := n1_; have BK191 := n2_; have BK196 := n3_; have HB := n4_; clear n0_ n1_ n2_ n3_ n4_; (try clear hb); (try clear hb2); (try clear hk); (try clear hi); have hcz18 := cl2_ BK196.out; have hfz18 := fr2_ BK196.out) | ((with_reducible refine gate_callee (f := 66) rfl ?_); refine goesL_ (some 12) rfl rfl Try.func66 (by kernel_rfl) rfl #[.agg #[.int .i64 t192, .slice Ao15 t193.length co15]] rfl (by (try simp only [List.map_toArray, List.map_cons, List.map_nil]); first | done | rfl | (simp only [List.length_drop, List.length_take]; rfl)) ?_; (with_reducible refine (spec_l05First.calls k t192 _ _ t193 t198 _ ?side1 ?side2 A5.out).mono ?_); (case side1 => repeat (first | exact (Kd.R_reads' HO195.out).2.2 | (with_reducible refine Kd.C_alloc ?_ _) | (with_reducible refine Kd.C_drewN ?_ _) | (with_reducible refine Kd.C_drew ?_))); (case side2 => exact (Kd.R_reads' HO195.out).2.1); rintro e w19 ⟨rfl, hb⟩; refine ⟨_, rfl, ?_⟩; have n0_ := Aside0.mk (R_bel HO195.out hb); have n1_ := Aside0.mk (blk_bel BK190.out hb); have n2_ := Aside0.mk (blk_bel BK191.out hb); have n3_ := Aside0.mk (blk_bel BK196.out hb); have n4_ := Aside0.mk (cBs_ HB.out hb); clear HO195; clear BK190; clear BK191; clear BK196; clear HB; have HO195 := n0_; have BK190 := n1_; have BK191 := n2_; have BK196 := n3_; have HB := n4_; clear n0_ n1_ n2_ n3_ n4_; (try clear hb); (try clear hb2); (try clear hk); (try clear hi)))
  go_loopg [4] k (fun kq v4 w' => ∃ (x4_1 : Int) (x197000_1 : Int) (x197001_1 : List (S36)) (u197001 : Value), v4 = .int .i64 x4_1 ∧ Aside0 (spec_Balance.l0 kq x4_1 x197000_1 x197001_1 = some (r1, r2)) ∧ Aside0 (kq ≤ k) ∧ Aside0 (Kd.R k36 36 w' w.heap.size (fun _ => True) u197001 x197001_1) ∧ Aside0 (w'.heap[gb190]? = some (.cells #[.int .i64 a0_0, (.slice A0_1 l0_1.length c0_1)] 26 (0, 0))) ∧ Aside0 (w'.heap[gb191]? = some (.cells #[.int .i64 0, (.slice none 0 0)] 26 (0, 0))) ∧ Aside0 (w'.heap[gb196]? = some (.cells #[.int .i64 x197000_1, u197001] 26 (0, 0))) ∧ Aside0 (Below w.heap.size w w'))
  case atStart => exact ⟨(t198), (t192), (t193), (.slice Ao15 t193.length co15), (by first | rfl | (simp; done) | (simp [*]; done)), H', ⟨Nat.le_refl _⟩, ⟨cR_ HO195.out⟩, ⟨cb_ BK190.out⟩, ⟨cb_ BK191.out⟩, ⟨cb_ BK196.out⟩, ⟨cB_ HB.out⟩⟩
  case round =>
   clear H'
   try clear c1
   try clear p2
   try clear c4
   try clear c5
   try clear c6
   try clear c8
   try clear c10
   try clear c12
   try clear c13
   try clear hcz14
   try clear hcz16
   try clear hcz18
   try clear hcz9
   try clear hfz14
   try clear hfz16
   try clear hfz18
   try clear hfz9
   obtain ⟨x4_1, x197000_1, x197001_1, u197001, rfl, HA, HK1, HO_197001, BK190, BK191, BK196, HB⟩ := hrel
   cases gk with
   | zero => exact absurd HA.out (by simp [spec_Balance.l0])
   | succ k1 =>
    have H := HA.out
    clear HA
    simp only [spec_Balance.l0] at H
    by_cases c20 : x4_1 ≥ 0
    ·
     rw [if_pos c20] at H
     have c20b0 : decide (0 ≤ x4_1) = true := decide_eq_true c20
     clear c20
     replace H := Option.bind_eq_some_iff.mp H
     obtain ⟨t199, A210, H⟩ := H
     (try dsimp only at H)
     have A21 := Aside0.mk A210
     clear A210
     replace H := Option.bind_eq_some_iff.mp H
     obtain ⟨⟨t200, t201⟩, A220, H⟩ := H
     (try dsimp only at H)
     have A22 := Aside0.mk A220
     clear A220
     replace H := Option.bind_eq_some_iff.mp H
     obtain ⟨t204, A230, H⟩ := H
     (try dsimp only at H)
     have A23 := Aside0.mk A230
     clear A230
     have H' := Aside0.mk H
     clear H
     try go_wp2
     have n0_ := Aside0.mk (Kd.R_drew HO_197001.out)
     have n1_ := Aside0.mk (blk_drew BK190.out)
     have n2_ := Aside0.mk (blk_drew BK191.out)
     have n3_ := Aside0.mk (blk_drew BK196.out)
     have n4_ := Aside0.mk (below_drew1 HB.out)
     clear HO_197001
     clear BK190
     clear BK191
     clear BK196
     clear HB
     have HO_197001 := n0_
     have BK190 := n1_
     have BK191 := n2_
     have BK196 := n3_
     have HB := n4_
     clear n0_ n1_ n2_ n3_ n4_
     obtain ⟨Ao25, co25, eo25⟩ := Kd.R_slice HO_197001.out
     (first | subst eo25 | (injection eo25 with f1_ f2_ f3_; have f4_ := f1_.symm; have f5_ := f3_.symm; clear f1_ f2_ f3_; subst f4_; subst f5_))
     refine start_ (n := 6) (S := fun w' => w'.cell? ⟨gb196, 0, none⟩ = some (.int .i64 x197000_1) ∧ w'.cell? ⟨gb196, 1, none⟩ = some (.slice Ao25 x197001_1.length co25)) (ds := [5]) #[false, false, false, false, false, false] (by kernel_rfl) rfl rfl ⟨(blk_cell BK196.out 0).trans rfl, (blk_cell BK196.out 1).trans rfl⟩ (fun hHeld => ?_)
     generalize wr.drew = w24 at HO_197001 BK190 BK191 BK196 HB hHeld ⊢
     refine pure_ (i := 2) (N := some 19) (v := ?_) (a' := ?_) #[false, false, true, false, false, false] rfl rfl (by kernel_rfl) (fun _ _ _ h => h) (Or.inl ⟨by rfl, ?_⟩) ?_ ?_
     rotate_left
     ·
      intro w'
      go_simp
      with_reducible rfl
     rotate_left
     ·
      simp only [Act.put, q1_, q2_, q3_, i64_w, i32_w]
      rfl
     refine take_ (i := 0) (N := some 17) (v := ?_) (a' := ?_) #[true, false, true, false, false, false] rfl rfl (by kernel_rfl) (fun _ _ _ h => h) (Or.inl ⟨by rfl, ?_⟩) hHeld ?_ ?_
     rotate_left
     ·
      rintro w' ⟨s0, s1⟩
      go_simp
      with_reducible rfl
     rotate_left
     ·
      simp only [Act.put, q1_, q2_, q3_, i64_w, i32_w]
      rfl
     refine take_ (i := 1) (N := some 18) (v := ?_) (a' := ?_) #[true, true, true, false, false, false] rfl rfl (by kernel_rfl) (fun _ _ _ h => h) (Or.inl ⟨by rfl, ?_⟩) hHeld ?_ ?_
     rotate_left
     ·
      rintro w' ⟨s0, s1⟩
      go_simp
      with_reducible rfl
     rotate_left
     ·
      simp only [Act.put, q1_, q2_, q3_, i64_w, i32_w]
      rfl
     refine one_ (i := 3) (N := some 20) #[true, true, true, true, false, false] rfl rfl (by kernel_rfl) (by decide) (fun K hK => ?_)
     refine goes_ Try.func125 (by kernel_rfl) rfl #[.agg #[.int .i64 x197000_1, .slice Ao25 x197001_1.length co25], .int .i64 x4_1] (by rfl) rfl rfl (by (try simp only [List.map_toArray, List.map_cons, List.map_nil]); first | done | rfl | (simp only [List.length_drop, List.length_take]; rfl)) ?_
     with_reducible refine (spec_l05Coarser.calls x197000_1 _ _ x197001_1 x4_1 t199 _ ?side1 ?side2 A21.out).mono ?_
     (case side1 => repeat (first | exact (Kd.R_reads' HO_197001.out).2.2 | (with_reducible refine Kd.C_alloc ?_ _) | (with_reducible refine Kd.C_drewN ?_ _) | (with_reducible refine Kd.C_drew ?_)))
     (case side2 => exact (Kd.R_reads' HO_197001.out).2.1)
     rintro e w26 ⟨rfl, hb⟩
     refine ⟨_, rfl, ?_⟩
     have n0_ := Aside0.mk (R_bel HO_197001.out hb)
     have n1_ := Aside0.mk (blk_bel BK190.out hb)
     have n2_ := Aside0.mk (blk_bel BK191.out hb)
     have n3_ := Aside0.mk (blk_bel BK196.out hb)
     have n4_ := Aside0.mk (cBs_ HB.out hb)
     clear HO_197001
     clear BK190
     clear BK191
     clear BK196
     clear HB
     have HO_197001 := n0_
     have BK190 := n1_
     have BK191 := n2_
     have BK196 := n3_
     have HB := n4_
     clear n0_ n1_ n2_ n3_ n4_
     (try clear hb)
     (try clear hb2)
     (try clear hk)
     (try clear hi)
     refine hK.out _ _ ⟨(blk_cell BK196.out 0).trans rfl, (blk_cell BK196.out 1).trans rfl⟩ (fun hHeld => ?_)
     clear hK K
     refine norm_ (a' := ?_) ?_ ?_
     rotate_left
     ·
      show Act.put _ (some 20) _ = _
      simp only [Act.put, q1_, q2_, q3_, i64_w, i32_w]
      rfl
     refine one_ (i := 4) (N := some 21) #[true, true, true, true, true, false] rfl rfl (by kernel_rfl) (by decide) (fun K hK => ?_)
     refine goes_ Try.func101 (by kernel_rfl) rfl #[.agg #[.int .i64 x197000_1, .slice Ao25 x197001_1.length co25], .int .i64 t199] (by rfl) rfl rfl (by (try simp only [List.map_toArray, List.map_cons, List.map_nil]); first | done | rfl | (simp only [List.length_drop, List.length_take]; rfl)) ?_
     with_reducible refine (spec_l05Split.calls x197000_1 _ _ x197001_1 t199 t200 t201 _ ?side1 ?side2 A22.out).mono ?_
     (case side1 => repeat (first | exact (Kd.R_reads' HO_197001.out).2.2 | (with_reducible refine Kd.C_alloc ?_ _) | (with_reducible refine Kd.C_drewN ?_ _) | (with_reducible refine Kd.C_drew ?_)))
     (case side2 => exact (Kd.R_reads' HO_197001.out).2.1)
     rintro e w27 ⟨v202, rfl, ho0, hb⟩
     refine ⟨_, rfl, ?_⟩
     have n0_ := Aside0.mk (Kd.R_elder' (cR_ HO_197001.out) (Kd.R_base ho0) hb)
     have n1_ := Aside0.mk (Kd.R_lower (Kd.R_new' ho0 (Kd.R_lt (cR_ HO_197001.out))) (cBz_ HB.out))
     have n2_ := Aside0.mk (blk_bel BK190.out hb)
     have n3_ := Aside0.mk (blk_bel BK191.out hb)
     have n4_ := Aside0.mk (blk_bel BK196.out hb)
     have n5_ := Aside0.mk (cBs_ HB.out hb)
     clear HO_197001
     clear BK190
     clear BK191
     clear BK196
     clear HB
     have HO_197001 := n0_
     have HO203 := n1_
     have BK190 := n2_
     have BK191 := n3_
     have BK196 := n4_
     have HB := n5_
     clear n0_ n1_ n2_ n3_ n4_ n5_
     (try clear hb)
     (try clear hb2)
     (try clear hk)
     (try clear hi)
     (try clear ho0)
     obtain ⟨Ao29, co29, eo29⟩ := Kd.R_slice HO203.out
     (first | subst eo29 | (injection eo29 with f1_ f2_ f3_; have f4_ := f1_.symm; have f5_ := f3_.symm; clear f1_ f2_ f3_; subst f4_; subst f5_))
     refine hK.out _ _ ⟨(blk_cell BK196.out 0).trans rfl, (blk_cell BK196.out 1).trans rfl⟩ (fun hHeld => ?_)
     clear hK K
     refine norm_ (a' := ?_) ?_ ?_
     rotate_left
     ·
      show Act.put _ (some 21) _ = _
      simp only [Act.put, q1_, q2_, q3_, i64_w, i32_w]
      rfl
     refine last_ (i := 5) (N := none) #[true, true, true, true, true, true] rfl rfl (by kernel_rfl) (by decide) (fun K hK => ?_)
     have hs28 : w27.cell? ⟨gb196, 0, none⟩ = some (.int .i64 x197000_1) := (blk_cell BK196.out 0).trans rfl
     have hfs28 := blk_frozen BK196.out 0
     have hns28_0 := NB190_196.out
     have hns28_1 := NB191_196.out
     have hms28_0 := NB196_190.out
     have hms28_1 := NB196_191.out
     have hs30 : w27.cell? ⟨gb196, 1, none⟩ = some (.slice Ao25 x197001_1.length co25) := (blk_cell BK196.out 1).trans rfl
     have hfs30 := blk_frozen BK196.out 1
     have hns30_0 := NB190_196.out
     have hns30_1 := NB191_196.out
     have hms30_0 := NB196_190.out
     have hms30_1 := NB196_191.out
     refine skip_ (w1 := ?_) (by rfl) rfl ?_ ?_
     rotate_left
     ·
      go_simp
      rfl
     refine hK.out _ _ ?_
     clear hK K
     refine done_ (by kernel_rfl) ?_
     have hnb31 := NB196_190.out
     have hnc31 := NB190_196.out
     have hnb32 := NB196_191.out
     have hnc32 := NB191_196.out
     have hcz33 := cl2_ BK196.out
     have hfz33 := fr2_ BK196.out
     try go_wp2_with (first | ((with_reducible refine gate_callee (f := 66) rfl ?_); refine goesL_ (some 16) rfl rfl Try.func66 (by kernel_rfl) rfl #[.agg #[.int .i64 t200, .slice Ao29 t201.length co29]] rfl (by (try simp only [List.map_toArray, List.map_cons, List.map_nil]); first | done | rfl | (simp only [List.length_drop, List.length_take]; rfl)) ?_; (with_reducible refine (spec_l05First.calls k1 t200 _ _ t201 t204 _ ?side1 ?side2 A23.out).mono ?_); (case side1 => refine (Kd.R_reads' (e := 36) (base := w.heap.size) (ok := fun k_ => (True ∧ some k_ ≠ (.slice Ao25 x197001_1.length co25 : Value).ownBlock)) (n := t201.length) (c := co29) ?_).2.2; exact (by (with_reducible repeat first | apply Kd.R_alloc | apply Kd.R_drewN | apply Kd.R_drew); exact (R_far2 HO203.out BK196.out))); (case side2 => exact (Kd.R_reads' HO203.out).2.1); rintro e w34 ⟨rfl, hb⟩; refine ⟨_, rfl, ?_⟩; have n0_ := Aside0.mk (Kd.R_below (by (with_reducible repeat first | apply Kd.R_alloc | apply Kd.R_drewN | apply Kd.R_drew); exact (R_far2 HO_197001.out BK196.out)) hb); have n1_ := Aside0.mk (Kd.R_below (by (with_reducible repeat first | apply Kd.R_alloc | apply Kd.R_drewN | apply Kd.R_drew); exact (R_far2 HO203.out BK196.out)) hb); have n2_ := Aside0.mk (blk_below (g := gb190) (o := .cells #[.int .i64 a0_0, .slice A0_1 l0_1.length c0_1] 26 (0, 0)) (by (with_reducible repeat first | apply blk_drewN | apply blk_drew | apply blk_alloc); refine blk_far ?_ NB190_196.out _; (with_reducible repeat first | apply blk_drewN | apply blk_drew | apply blk_alloc); refine blk_far ?_ NB190_196.out _; (with_reducible repeat first | apply blk_drewN | apply blk_drew | apply blk_alloc); exact BK190.out) hb); have n3_ := Aside0.mk (blk_below (g := gb191) (o := .cells #[.int .i64 0, .slice none 0 0] 26 (0, 0)) (by (with_reducible repeat first | apply blk_drewN | apply blk_drew | apply blk_alloc); refine blk_far ?_ NB191_196.out _; (with_reducible repeat first | apply blk_drewN | apply blk_drew | apply blk_alloc); refine blk_far ?_ NB191_196.out _; (with_reducible repeat first | apply blk_drewN | apply blk_drew | apply blk_alloc); exact BK191.out) hb); have n4_ := Aside0.mk (blk_below (g := gb196) (o := .cells #[.int .i64 t200, .slice Ao29 t201.length co29] 26 (0, 0)) (by (with_reducible repeat first | apply blk_drewN | apply blk_drew | apply blk_alloc); refine blk_put (cs := #[.int .i64 t200, .slice Ao25 x197001_1.length co25]) ?_ 1 _ rfl; (with_reducible repeat first | apply blk_drewN | apply blk_drew | apply blk_alloc); refine blk_put (cs := #[.int .i64 x197000_1, .slice Ao25 x197001_1.length co25]) ?_ 0 _ rfl; (with_reducible repeat first | apply blk_drewN | apply blk_drew | apply blk_alloc); exact BK196.out) hb); have n5_ := Aside0.mk (cBs_ HB.out hb); clear HO_197001; clear HO203; clear BK190; clear BK191; clear BK196; clear HB; have HO_197001 := n0_; have HO203 := n1_; have BK190 := n2_; have BK191 := n3_; have BK196 := n4_; have HB := n5_; clear n0_ n1_ n2_ n3_ n4_ n5_; (try clear hb); (try clear hb2); (try clear hk); (try clear hi)))
     go_roundg k1
     case measure => have := HK1.out; omega
     case rel => exact ⟨(t204), (t200), (t201), (.slice Ao29 t201.length co29), (by first | rfl | (simp; done) | (simp [*]; done)), H', ⟨by have := HK1.out; omega⟩, ⟨by (with_reducible repeat first | apply Kd.R_alloc | apply Kd.R_drewN | apply Kd.R_drew); exact Kd.R_mono HO203.out (fun _ hk => trivial)⟩, ⟨cb_ BK190.out⟩, ⟨cb_ BK191.out⟩, ⟨cb_ BK196.out⟩, ⟨cB_ HB.out⟩⟩
    ·
     rw [if_neg c20] at H
     have c20b0 : decide (0 ≤ x4_1) = false := decide_eq_false c20
     clear c20
     simp only [Option.some.injEq, Prod.mk.injEq] at H
     obtain ⟨rfl, rfl⟩ := H
     have hnb35 := NB196_190.out
     have hnc35 := NB190_196.out
     have hnb36 := NB196_191.out
     have hnc36 := NB191_196.out
     have hcz37 := cl2_ BK196.out
     have hfz37 := fr2_ BK196.out
     have hnb38 := NB191_190.out
     have hnc38 := NB190_191.out
     have hcz39 := cl2_ BK191.out
     have hfz39 := fr2_ BK191.out
     obtain ⟨Ao40, co40, eo40⟩ := Kd.R_slice HO_197001.out
     subst eo40
     go_wp2
     refine bodyPost_ret (results_cell_row rfl _ _ gb191 26 #[.int .i64 x197000_1, .slice Ao40 x197001_1.length co40] (0, 0) _ rfl (by (with_reducible repeat first | apply blk_drewN | apply blk_drew | apply blk_alloc); refine blk_put (cs := #[.int .i64 x197000_1, .slice none 0 0]) ?_ 1 _ rfl; (with_reducible repeat first | apply blk_drewN | apply blk_drew | apply blk_alloc); refine blk_put (cs := #[.int .i64 0, .slice none 0 0]) ?_ 0 _ rfl; (with_reducible repeat first | apply blk_drewN | apply blk_drew | apply blk_alloc); exact BK191.out) Try.underlying26 rfl (by kernel_rfl)) rfl ?_
     exact ⟨_, by first | rfl | (simp [*, errW_none, errW_some] <;> rfl), by (with_reducible repeat first | apply Kd.R_alloc | apply Kd.R_drewN | apply Kd.R_drew); exact Kd.R_mono (Kd.R_far (p := ⟨gb191, 1, none⟩) (Kd.R_far (p := ⟨gb191, 0, none⟩) (Kd.R_types HO_197001.out BK191.out (by decide)) (fun _ hk => hk.2) (.int .i64 x197000_1)) (fun _ hk => hk.2) (.slice Ao40 x197001_1.length co40)) (fun _ hk => trivial), cB_ HB.out⟩
 ·
  replace c4 := Bool.eq_false_iff.mpr c4
  subst c4
  have H1 : (some (t192, t193)) = some (r1, r2) := by rw [if_neg (show ¬ (false = true) by decide)] at H; exact H
  clear H
  have H := H1
  clear H1
  simp only [Option.some.injEq, Prod.mk.injEq] at H
  obtain ⟨rfl, rfl⟩ := H
  go_enter Try.func103, Try.ntmps103
  go_wp2_with (first | ((with_reducible refine gate_dst (N := 1) rfl ?_); refine bxe_ 1 #[.int .i64 a0_0, .slice A0_1 l0_1.length c0_1] 26 ?_; intro gb190 hg w41 hbox hb; have n0_ := Aside0.mk (bst_ HB.out hb); have n1_ := Aside0.mk (hbox); have n2_ := Aside0.mk (gz_ hg (bsz_ HB.out)); have n3_ := Aside0.mk (gz_ hg (bsz_ HB.out)); clear HB; have HB := n0_; have BK190 := n1_; have GW190 := n2_; have GE190 := n3_; clear n0_ n1_ n2_ n3_; clear hb hbox hg) | ((with_reducible refine gate_dst (N := 2) rfl ?_); refine bxe_ 2 #[.int .i64 0, .slice none 0 0] 26 ?_; intro gb191 hg w42 hbox hb; have n0_ := Aside0.mk (blk_bel BK190.out hb); have n1_ := Aside0.mk (cBs_ HB.out hb); have n2_ := Aside0.mk (hbox); have n3_ := Aside0.mk (gz_ hg (cBz_ HB.out)); have n4_ := Aside0.mk (gz_ hg (cBz_ HB.out)); have n5_ := Aside0.mk ((by rw [hg]; exact Nat.ne_of_lt (blk_lt (g := gb190) (o := .cells #[.int .i64 a0_0, .slice A0_1 l0_1.length c0_1] 26 (0, 0)) (cb_ BK190.out)) : gb190 ≠ gb191)); have n6_ := Aside0.mk ((by rw [hg]; exact Nat.ne_of_gt (blk_lt (g := gb190) (o := .cells #[.int .i64 a0_0, .slice A0_1 l0_1.length c0_1] 26 (0, 0)) (cb_ BK190.out)) : gb191 ≠ gb190)); clear BK190; clear HB; have BK190 := n0_; have HB := n1_; have BK191 := n2_; have GW191 := n3_; have GE191 := n4_; have NB190_191 := n5_; have NB191_190 := n6_; clear n0_ n1_ n2_ n3_ n4_ n5_ n6_; clear hb hbox hg; have hnb43 := NB190_191.out; have hnc43 := NB191_190.out; have hcz44 := cl2_ BK190.out; have hfz44 := fr2_ BK190.out) | ((with_reducible refine gate_callee (f := 80) rfl ?_); refine goesL_ (some 6) rfl rfl Try.func80 (by kernel_rfl) rfl #[.agg #[.int .i64 a0_0, .slice A0_1 l0_1.length c0_1]] rfl (by (try simp only [List.map_toArray, List.map_cons, List.map_nil]); first | done | rfl | (simp only [List.length_drop, List.length_take]; rfl)) ?_; (with_reducible refine (spec_l04Copy.calls a0_0 _ _ l0_1 t192 t193 _ ?side1 ?side2 A2.out).mono ?_); (case side1 => exact cC_ HR0_1.out HB.out); (case side2 => exact HC0_1.out); rintro e w45 ⟨v194, rfl, ho0, hb⟩; refine ⟨_, rfl, ?_⟩; have n0_ := Aside0.mk (Kd.R_lower ho0 (cBz_ HB.out)); have n1_ := Aside0.mk (blk_bel BK190.out hb); have n2_ := Aside0.mk (blk_bel BK191.out hb); have n3_ := Aside0.mk (cBs_ HB.out hb); clear BK190; clear BK191; clear HB; have HO195 := n0_; have BK190 := n1_; have BK191 := n2_; have HB := n3_; clear n0_ n1_ n2_ n3_; (try clear hb); (try clear hb2); (try clear hk); (try clear hi); (try clear ho0)) | ((with_reducible refine gate_dst (N := 3) rfl ?_); refine bxe_ 3 #[.int .i64 0, .slice none 0 0] 26 ?_; intro gb196 hg w46 hbox hb; have n0_ := Aside0.mk (R_bel HO195.out hb); have n1_ := Aside0.mk (blk_bel BK190.out hb); have n2_ := Aside0.mk (blk_bel BK191.out hb); have n3_ := Aside0.mk (cBs_ HB.out hb); have n4_ := Aside0.mk (hbox); have n5_ := Aside0.mk (gz_ hg (cBz_ HB.out)); have n6_ := Aside0.mk (gz_ hg (cBz_ HB.out)); have n7_ := Aside0.mk ((by rw [hg]; exact Nat.ne_of_lt (blk_lt (g := gb190) (o := .cells #[.int .i64 a0_0, .slice A0_1 l0_1.length c0_1] 26 (0, 0)) (cb_ BK190.out)) : gb190 ≠ gb196)); have n8_ := Aside0.mk ((by rw [hg]; exact Nat.ne_of_gt (blk_lt (g := gb190) (o := .cells #[.int .i64 a0_0, .slice A0_1 l0_1.length c0_1] 26 (0, 0)) (cb_ BK190.out)) : gb196 ≠ gb190)); have n9_ := Aside0.mk ((by rw [hg]; exact Nat.ne_of_lt (blk_lt (g := gb191) (o := .cells #[.int .i64 0, .slice none 0 0] 26 (0, 0)) (cb_ BK191.out)) : gb191 ≠ gb196)); have n10_ := Aside0.mk ((by rw [hg]; exact Nat.ne_of_gt (blk_lt (g := gb191) (o := .cells #[.int .i64 0, .slice none 0 0] 26 (0, 0)) (cb_ BK191.out)) : gb196 ≠ gb191)); clear HO195; clear BK190; clear BK191; clear HB; have HO195 := n0_; have BK190 := n1_; have BK191 := n2_; have HB := n3_; have BK196 := n4_; have GW196 := n5_; have GE196 := n6_; have NB190_196 := n7_; have NB196_190 := n8_; have NB191_196 := n9_; have NB196_191 := n10_; clear n0_ n1_ n2_ n3_ n4_ n5_ n6_ n7_ n8_ n9_ n10_; clear hb hbox hg; have hnb47 := NB196_190.out; have hnc47 := NB190_196.out; have hnb48 := NB196_191.out; have hnc48 := NB191_196.out; have hcz49 := cl2_ BK196.out; have hfz49 := fr2_ BK196.out; obtain ⟨Ao50, co50, eo50⟩ := Kd.R_slice HO195.out; subst eo50; have hcz51 := cl2_ BK190.out; have hfz51 := fr2_ BK190.out) | ((with_reducible refine gate_callee (f := 57) rfl ?_); refine goesL_ (some 8) rfl rfl Try.func57 (by kernel_rfl) rfl #[.agg #[.int .i64 a0_0, .slice A0_1 l0_1.length c0_1]] rfl (by (try simp only [List.map_toArray, List.map_cons, List.map_nil]); first | done | rfl | (simp only [List.length_drop, List.length_take]; rfl)) ?_; (with_reducible refine (spec_MeshOk.calls k a0_0 _ _ l0_1 false _ ?side1 ?side2 A3.out).mono ?_); (case side1 => exact Kd.C_below HR0_1.out (cB_ HB.out)); (case side2 => exact HC0_1.out); rintro e w52 ⟨rfl, hb⟩; refine ⟨_, rfl, ?_⟩; have n0_ := Aside0.mk (Kd.R_below (by (with_reducible repeat first | apply Kd.R_alloc | apply Kd.R_drewN | apply Kd.R_drew); exact (R_far2 HO195.out BK196.out)) hb); have n1_ := Aside0.mk (blk_below (g := gb190) (o := .cells #[.int .i64 a0_0, .slice A0_1 l0_1.length c0_1] 26 (0, 0)) (by (with_reducible repeat first | apply blk_drewN | apply blk_drew | apply blk_alloc); refine blk_far ?_ NB190_196.out _; (with_reducible repeat first | apply blk_drewN | apply blk_drew | apply blk_alloc); refine blk_far ?_ NB190_196.out _; (with_reducible repeat first | apply blk_drewN | apply blk_drew | apply blk_alloc); exact BK190.out) hb); have n2_ := Aside0.mk (blk_below (g := gb191) (o := .cells #[.int .i64 0, .slice none 0 0] 26 (0, 0)) (by (with_reducible repeat first | apply blk_drewN | apply blk_drew | apply blk_alloc); refine blk_far ?_ NB191_196.out _; (with_reducible repeat first | apply blk_drewN | apply blk_drew | apply blk_alloc); refine blk_far ?_ NB191_196.out _; (with_reducible repeat first | apply blk_drewN | apply blk_drew | apply blk_alloc); exact BK191.out) hb); have n3_ := Aside0.mk (blk_below (g := gb196) (o := .cells #[.int .i64 t192, .slice Ao50 t193.length co50] 26 (0, 0)) (by (with_reducible repeat first | apply blk_drewN | apply blk_drew | apply blk_alloc); refine blk_put (cs := #[.int .i64 t192, .slice none 0 0]) ?_ 1 _ rfl; (with_reducible repeat first | apply blk_drewN | apply blk_drew | apply blk_alloc); refine blk_put (cs := #[.int .i64 0, .slice none 0 0]) ?_ 0 _ rfl; (with_reducible repeat first | apply blk_drewN | apply blk_drew | apply blk_alloc); exact BK196.out) hb); have n4_ := Aside0.mk (cBs_ HB.out hb); clear HO195; clear BK190; clear BK191; clear BK196; clear HB; have HO195 := n0_; have BK190 := n1_; have BK191 := n2_; have BK196 := n3_; have HB := n4_; clear n0_ n1_ n2_ n3_ n4_; (try clear hb); (try clear hb2); (try clear hk); (try clear hi); have hcz53 := cl2_ BK196.out; have hfz53 := fr2_ BK196.out; have hcz54 := cl2_ BK191.out; have hfz54 := fr2_ BK191.out))
  refine bodyPost_ret (results_cell_row rfl _ _ gb191 26 #[.int .i64 t192, .slice Ao50 t193.length co50] (0, 0) _ rfl (by (with_reducible repeat first | apply blk_drewN | apply blk_drew | apply blk_alloc); refine blk_put (cs := #[.int .i64 t192, .slice none 0 0]) ?_ 1 _ rfl; (with_reducible repeat first | apply blk_drewN | apply blk_drew | apply blk_alloc); refine blk_put (cs := #[.int .i64 0, .slice none 0 0]) ?_ 0 _ rfl; (with_reducible repeat first | apply blk_drewN | apply blk_drew | apply blk_alloc); exact BK191.out) Try.underlying26 rfl (by kernel_rfl)) rfl ?_
  exact ⟨_, by first | rfl | (simp [*, errW_none, errW_some] <;> rfl), by (with_reducible repeat first | apply Kd.R_alloc | apply Kd.R_drewN | apply Kd.R_drew); exact Kd.R_mono (Kd.R_far (p := ⟨gb191, 1, none⟩) (Kd.R_far (p := ⟨gb191, 0, none⟩) (Kd.R_types HO195.out BK191.out (by decide)) (fun _ hk => hk.2) (.int .i64 t192)) (fun _ hk => hk.2) (.slice Ao50 t193.length co50)) (fun _ hk => trivial), cB_ HB.out⟩

/-! ### spec_l01Once: function 84 -/
def spec_l01Once.f (s0_0 : List Int) (s0_1 : Int) (s0_2 : Int) (a1 : Int) : Option (Bool × Int × Int) := (spec_l01Below.f s0_0 s0_1 s0_2 a1).bind fun bt205 => (some ((bt205.1 == 0), bt205.2.1, bt205.2.2))
set_option maxHeartbeats 8000000 in
set_option maxRecDepth 100000 in
theorem spec_l01Once.calls (g : Nat) (s0_0 : List Int) (s0_1 : Int) (s0_2 : Int) (a1 : Int) (r1 : Bool) (r2 : Int) (r3 : Int) (w0 w : World) (hI : IsS86 w0 w g s0_0 s0_1 s0_2) (hB : Below w0.heap.size w0 w) (h : spec_l01Once.f s0_0 s0_1 s0_2 a1 = some (r1, r2, r3)) :
  Calls Try.prog 84 #[.pointer (some ⟨g, 0, none⟩), .int .i64 a1] w fun e w' => e = .returned (.bool r1) ∧ IsS86 w0 w' g s0_0 r2 r3 ∧ Below w0.heap.size w0 w' ∧ KeepBut w w' g none := by
 have HI0 := Aside0.mk hI
 have HK := Aside0.mk (KeepBut.refl w g none)
 have HL := Aside0.mk hB.size
 clear hI
 have HW0 := Aside0.mk hB.size
 have HB := Aside0.mk hB
 clear hB
 have H : ((spec_l01Below.f s0_0 s0_1 s0_2 a1).bind fun bt205 => (some ((bt205.1 == 0), bt205.2.1, bt205.2.2))) = some (r1, r2, r3) := h
 clear h
 replace H := Option.bind_eq_some_iff.mp H
 obtain ⟨⟨t205, t206, t207⟩, A30, H⟩ := H
 (try dsimp only at H)
 have A3 := Aside0.mk A30
 clear A30
 simp only [Option.some.injEq, Prod.mk.injEq] at H
 obtain ⟨rfl, rfl, rfl⟩ := H
 go_enter Try.func84, Try.ntmps84
 go_wp2_with (first | ((with_reducible refine gate_callee (f := 47) rfl ?_); refine goesL_ (some 7) rfl rfl Try.func47 (by kernel_rfl) rfl #[.pointer (some ⟨g, 0, none⟩), .int .i64 a1] rfl (by (try simp only [List.map_toArray, List.map_cons, List.map_nil]); first | done | rfl | (simp only [List.length_drop, List.length_take]; rfl)) ?_; (with_reducible refine (spec_l01Below.calls g s0_0 s0_1 s0_2 a1 t205 t206 t207 w0 _ ?side1 ?side2 A3.out).mono ?_); (case side1 => exact cI86_ HI0.out); (case side2 => exact cBI86_ HB.out HI0.out); rintro e w4 ⟨rfl, hi, hb, hk⟩; refine ⟨_, rfl, ?_⟩; have n0_ := Aside0.mk (KeepBut.trans (cK_ HK.out) hk (.inl rfl)); have n1_ := Aside0.mk (hb); have n2_ := Aside0.mk (hi); clear HK; clear HB; clear HI0; have HK := n0_; have HB := n1_; have HI0 := n2_; clear n0_ n1_ n2_; (try clear hb); (try clear hb2); (try clear hk); (try clear hi)))
 go_ret
 exact ⟨by first | rfl | (simp [*, errW_none, errW_some] <;> rfl), cI86_ HI0.out, cBI86_ HB.out HI0.out, cK_ HK.out⟩


/-! ### spec_l04Mesh: function 104 (given) -/
def spec_l04Root.kids (F : Int → Int → S36 → List S36 → Option (Int × Int × List S36)) (x : S36) : Nat → Int → Int → Int → List S36 → Option (Int × Int × List S36)
  | 0, _, s1, s2, out => some (s1, s2, out)
  | n + 1, s, s1, s2, out => (spec_ChildOf.f x.f0 x.f1 x.f2 s).bind fun y => (F s1 s2 ⟨y.1, y.2.1, y.2.2.1⟩ out).bind fun u => spec_l04Root.kids F x n (s + 1) u.1 u.2.1 u.2.2
def spec_l04Root.add (s1 s2 : Int) (out : List S36) (x : S36) : Option (Int × Int × List S36) := if out.length < 5864062014805 then some (s1, s2, out ++ [x]) else none
def spec_l04Root.f : Nat → List Int → Int → Int → S36 → Int → List S36 → Option (Int × Int × List S36)
  | 0, _, _, _, _, _, _ => none
  | d + 1, s0, s1, s2, x, ch, out =>
    if x.f1 = 4 then spec_l04Root.add s1 s2 out x
    else (spec_l01Once.f s0 s1 s2 ch).bind fun t => if t.1 = true then spec_l04Root.kids (fun a b y o => spec_l04Root.f d s0 a b y (wrap64 (ch + 1)) o) x 2 0 t.2.1 t.2.2 out
      else spec_l04Root.add t.2.1 t.2.2 out x
def spec_l04Root.Post (w0 : World) (base g gb : Nat) (s0 : List Int) (R : Int) (u : Value) (w w' : World) (t1 t2 : Int) (res : List S36) : Prop :=
  IsS86 w0 w' g s0 t1 t2 ∧ Below w0.heap.size w0 w' ∧ ∃ u', w'.heap[gb]? = some (.cells #[.int .i64 R, u'] 26 (0, 0)) ∧ Kd.R k36 36 w' base (fun _ => True) u' res ∧ Kept w w' (fun k => k = g ∨ k = gb ∨ some k = u.ownBlock) ∧ (u'.ownBlock = u.ownBlock ∨ ∃ b, u'.ownBlock = some b ∧ w.heap.size ≤ b)
set_option maxHeartbeats 8000000 in
set_option maxRecDepth 100000 in
theorem spec_l04Root.calls (w0 : World) (base g gb : Nat) (s0 : List Int) (R : Int) (hb0 : w0.heap.size ≤ base) (hgb : base ≤ gb) :
    ∀ (d : Nat) (x : S36) (ch s1 s2 : Int) (out : List S36) (u : Value) (t1 t2 : Int) (res : List S36) (w : World), IsS86 w0 w g s0 s1 s2 → Below w0.heap.size w0 w → base ≤ w.heap.size → w.heap[gb]? = some (.cells #[.int .i64 R, u] 26 (0, 0)) → Kd.R k36 36 w base (fun _ => True) u out → spec_l04Root.f d s0 s1 s2 x ch out = some (t1, t2, res) →
      Calls Try.prog 126 #[.pointer (some ⟨g, 0, none⟩), .agg #[.int .i64 x.f0, .int .i64 x.f1, .int .i64 x.f2], .int .i64 ch, .pointer (some ⟨gb, 1, none⟩)] w fun e w' => e = .returned (.tuple #[]) ∧ spec_l04Root.Post w0 base g gb s0 R u w w' t1 t2 res := by
  intro d
  induction d with
  | zero => intro x ch s1 s2 out u t1 t2 res w _ _ _ _ _ h; cases h
  | succ d ih =>
    intro x ch s1 s2 out u t1 t2 res w hI hB hbw hb hR h
    obtain ⟨xa, xb, xc⟩ := x
    show Calls Try.prog 126 #[.pointer (some ⟨g, 0, none⟩), .agg #[.int .i64 xa, .int .i64 xb, .int .i64 xc], .int .i64 ch, .pointer (some ⟨gb, 1, none⟩)] w fun e w' => e = .returned (.tuple #[]) ∧ spec_l04Root.Post w0 base g gb s0 R u w w' t1 t2 res
    have huI := Try.underlying36
    have NX := Aside0.mk (show some w.heap.size ≠ u.ownBlock from fun e => by have := Kd.R_lt hR _ e.symm; omega)
    have HI := Aside0.mk (hI.alloc (.cells #[.int .i64 xa, .int .i64 xb, .int .i64 xc] 36))
    have HB := Aside0.mk (below_alloc hB (.cells #[.int .i64 xa, .int .i64 xb, .int .i64 xc] 36))
    have BK := Aside0.mk (blk_alloc hb (.cells #[.int .i64 xa, .int .i64 xb, .int .i64 xc] 36))
    have BX := Aside0.mk (blk_new w (.cells #[.int .i64 xa, .int .i64 xb, .int .i64 xc] 36))
    have HO := Aside0.mk (Kd.R_alloc hR (.cells #[.int .i64 xa, .int .i64 xb, .int .i64 xc] 36))
    have KP := Aside0.mk ((Kept.refl w (fun k => k = g ∨ k = gb ∨ some k = u.ownBlock)).alloc (.cells #[.int .i64 xa, .int .i64 xb, .int .i64 xc] 36))
    have HS := Aside0.mk (show w.heap.size < (w.alloc (.cells #[.int .i64 xa, .int .i64 xb, .int .i64 xc] 36)).heap.size by simp)
    have hx0 : (w.alloc (.cells #[.int .i64 xa, .int .i64 xb, .int .i64 xc] 36)).cell? ⟨w.heap.size, 1, none⟩ = some (.int .i64 xb) := (blk_cell BX.out 1).trans rfl
    clear hI hB hR hb
    unfold spec_l04Root.f at h
    dsimp only at h
    by_cases c4 : xb = 4
    · rw [if_pos c4] at h
      obtain rfl : xb = 4 := c4
      unfold spec_l04Root.add at h
      by_cases cl : out.length < 5864062014805
      · rw [if_pos cl] at h
        obtain ⟨rfl, rfl, hres⟩ : s1 = t1 ∧ s2 = t2 ∧ out ++ [⟨xa, 4, xc⟩] = res := by simpa using h
        clear h
        go_enter Try.func126, Try.ntmps126
        go_wp2
        generalize w.alloc (.cells #[.int .i64 xa, .int .i64 4, .int .i64 xc] 36) = W at HI HB BK BX HO KP HS hx0 ⊢
        refine start_ (n := 9) (S := fun w' => w'.cell? ⟨gb, 1, none⟩ = some u ∧ w'.cell? ⟨w.heap.size, 0, none⟩ = some (.int .i64 xa) ∧ w'.cell? ⟨w.heap.size, 1, none⟩ = some (.int .i64 4) ∧ w'.cell? ⟨w.heap.size, 2, none⟩ = some (.int .i64 xc)) (ds := [8]) #[false, false, false, false, false, false, false, false, false] (by kernel_rfl) rfl rfl ⟨(blk_cell BK.out 1).trans rfl, (blk_cell BX.out 0).trans rfl, (blk_cell BX.out 1).trans rfl, (blk_cell BX.out 2).trans rfl⟩ (fun hHeld => ?_)
        replace HI := Aside0.mk (IsS86.drew HI.out); replace HB := Aside0.mk (below_drew1 HB.out); replace BK := Aside0.mk (blk_drew BK.out); replace BX := Aside0.mk (blk_drew BX.out); replace HO := Aside0.mk (Kd.R_drew HO.out); replace KP := Aside0.mk (Kept.drew KP.out); replace HS := Aside0.mk (show w.heap.size < W.drew.heap.size from HS.out)
        generalize W.drew = W2 at HI HB BK BX HO KP HS hHeld ⊢
        refine pure_ (i := 0) (N := some 20) (v := ?_) (a' := ?_) #[true, false, false, false, false, false, false, false, false] rfl rfl (by kernel_rfl) (fun _ _ _ h => h) (Or.inl ⟨by rfl, ?_⟩) ?_ ?_
        rotate_left
        · intro w'
          go_simp
          with_reducible rfl
        rotate_left
        · simp only [Act.put, List.setIfInBounds_toArray, List.set_cons_zero, List.set_cons_succ, i64_w, i32_w]
          rfl
        refine pure_ (i := 1) (N := some 21) (v := ?_) (a' := ?_) #[true, true, false, false, false, false, false, false, false] rfl rfl (by kernel_rfl) (fun _ _ _ h => h) (Or.inl ⟨by rfl, ?_⟩) ?_ ?_
        rotate_left
        · intro w'
          go_simp
          with_reducible rfl
        rotate_left
        · simp only [Act.put, List.setIfInBounds_toArray, List.set_cons_zero, List.set_cons_succ, i64_w, i32_w]
          rfl
        refine pure_ (i := 2) (N := some 22) (v := ?_) (a' := ?_) #[true, true, true, false, false, false, false, false, false] rfl rfl (by kernel_rfl) (fun _ _ _ h => h) (Or.inl ⟨by rfl, ?_⟩) ?_ ?_
        rotate_left
        · intro w'
          go_simp
          with_reducible rfl
        rotate_left
        · simp only [Act.put, List.setIfInBounds_toArray, List.set_cons_zero, List.set_cons_succ, i64_w, i32_w]
          rfl
        refine take_ (i := 3) (N := some 23) (v := ?_) (a' := ?_) #[true, true, true, true, false, false, false, false, false] rfl rfl (by kernel_rfl) (fun _ _ _ h => h) (Or.inl ⟨by rfl, ?_⟩) hHeld ?_ ?_
        rotate_left
        · rintro w' ⟨s0, s1, s2, s3⟩
          go_simp
          with_reducible rfl
        rotate_left
        · simp only [Act.put, List.setIfInBounds_toArray, List.set_cons_zero, List.set_cons_succ, i64_w, i32_w]
          rfl
        refine take_ (i := 4) (N := some 24) (v := ?_) (a' := ?_) #[true, true, true, true, true, false, false, false, false] rfl rfl (by kernel_rfl) (fun _ _ _ h => h) (Or.inl ⟨by rfl, ?_⟩) hHeld ?_ ?_
        rotate_left
        · rintro w' ⟨s0, s1, s2, s3⟩
          go_simp
          with_reducible rfl
        rotate_left
        · simp only [Act.put, List.setIfInBounds_toArray, List.set_cons_zero, List.set_cons_succ, i64_w, i32_w]
          rfl
        refine one_ (i := 5) (N := some 25) #[true, true, true, true, true, true, false, false, false] rfl rfl (by kernel_rfl) (by decide) (fun K hK => ?_)
        refine value_ (w1 := ?_) (v := ?_) (by rfl) rfl ?_ ?_
        rotate_left 2
        · go_simp
          constructor
          · rfl
          · rfl
        refine hK.out _ _ ⟨(blk_cell (blk_alloc BK.out _) 1).trans rfl, (blk_cell (blk_alloc BX.out _) 0).trans rfl, (blk_cell (blk_alloc BX.out _) 1).trans rfl, (blk_cell (blk_alloc BX.out _) 2).trans rfl⟩ (fun hHeld => ?_)
        clear hK K
        refine norm_ (a' := ?_) ?_ ?_
        rotate_left
        · show Act.put _ (some 25) _ = _
          simp only [Act.put, List.setIfInBounds_toArray, List.set_cons_zero, List.set_cons_succ, i64_w, i32_w]
          rfl
        refine one_ (i := 6) (N := some 26) #[true, true, true, true, true, true, true, false, false] rfl rfl (by kernel_rfl) (by decide) (fun K hK => ?_)
        refine Kd.R_append_step k36 (w0 := W2) base (by rfl) (.tmp 23) (.tmp 25) 24 36 (.agg #[(.int .i64 0), (.int .i64 0), (.int .i64 0)]) 24 rfl Try.underlying24 info36 rfl (by decide) (by omega) u out (⟨xa, 4, xc⟩ : S36) [.int .i64 xa, .int .i64 4, .int .i64 xc] (fun _ => True) (fun _ => False) rfl rfl ?aP (fun _ hk => hk.elim) ?aF ?aO ?aB ?aS ?aL ?_
        (case aP => exact k36_mkM _ _ _ (⟨xa, 4, xc⟩ : S36))
        (case aB => exact (Below.refl _ _))
        (case aF => exact (fun _ _ => trivial))
        (case aO => exact HO.out)
        (case aS => have := HS.out; omega)
        (case aL => omega)
        intro v1 W3 ho hb hg hat
        rw [hres] at ho
        obtain ⟨Ao, co, eo⟩ := Kd.R_slice ho; subst eo
        have hge : ∀ k, u.ownBlock = some k → base ≤ k := fun k hk => own_base (Kd.R_own HO.out).choose_spec k hk
        have hlt := Kd.R_lt HO.out
        have nx : some w.heap.size ≠ u.ownBlock := NX.out
        have BK3 := blk_grown BK.out hg (Kd.R_ne HO.out BK.out (by decide))
        have BX3 := blk_grown BX.out hg nx
        have HI3 := IsS86.grown HI.out hg (IsS86.own_ne HI.out HO.out (by decide))
        have HB3 := HB.out.trans (hb.mono hb0)
        have KP3 := Kept.of_grown hg KP.out (fun k hk => Or.inl (Or.inr (Or.inr hk.symm)))
        have HS3 : W2.heap.size ≤ W3.heap.size := hg.size
        refine hK.out _ _ ⟨(blk_cell BK3 1).trans rfl, (blk_cell BX3 0).trans rfl, (blk_cell BX3 1).trans rfl, (blk_cell BX3 2).trans rfl⟩ (fun hHeld => ?_)
        clear hK K
        refine norm_ (a' := ?_) ?_ ?_
        rotate_left
        · show Act.put _ (some 26) _ = _
          simp only [Act.put, List.setIfInBounds_toArray, List.set_cons_zero, List.set_cons_succ, i64_w, i32_w]
          rfl
        refine pure_ (i := 7) (N := some 27) (v := ?_) (a' := ?_) #[true, true, true, true, true, true, true, true, false] rfl rfl (by kernel_rfl) (fun _ _ _ h => h) (Or.inl ⟨by rfl, ?_⟩) ?_ ?_
        rotate_left
        · intro w'
          go_simp
          with_reducible rfl
        rotate_left
        · simp only [Act.put, List.setIfInBounds_toArray, List.set_cons_zero, List.set_cons_succ, i64_w, i32_w]
          rfl
        refine last_ (i := 8) (N := none) #[true, true, true, true, true, true, true, true, true] rfl rfl (by kernel_rfl) (by decide) (fun K hK => ?_)
        have hfz := blk_frozen BK3 1
        have hcz : W3.cell? ⟨gb, 1, none⟩ = some u := (blk_cell BK3 1).trans rfl
        refine skip_ (w1 := ?_) (by rfl) rfl ?_ ?_
        rotate_left
        · go_simp
          rfl
        refine hK.out _ _ ?_
        clear hK K
        refine done_ (by kernel_rfl) ?_
        go_wp2
        (try simp only [Exit.inBlock, Exit.then])
        refine bodyPost_ret (results_none rfl _ _ _) rfl ?_
        refine ⟨rfl, IsS86.far HI3 (IsS86.ne_blk HI3 BK3 (by decide)) _, HB3.setCell (by show w0.heap.size ≤ gb; omega) _, _, blk_put BK3 1 _ rfl, Kd.R_mono (Kd.R_far (p := ⟨gb, 1, none⟩) (Kd.R_types ho BK3 (by decide)) (fun _ hk => hk.2) _) (fun _ hk => trivial), KP3.setCell (Or.inl (Or.inr (Or.inl rfl))) _, ?_⟩
        rcases hat with hat | ⟨b, h1, h2⟩
        · exact Or.inl hat
        · exact Or.inr ⟨b, h1, by have := HS.out; omega⟩
      · rw [if_neg cl] at h; cases h
    · rw [if_neg c4] at h
      obtain ⟨⟨t, a1, a2⟩, hA, h⟩ := Option.bind_eq_some_iff.1 h
      have HA := Aside0.mk hA
      clear hA
      dsimp only at h
      have c4b : decide (xb = 4) = false := decide_eq_false c4
      have c4c : (xb == 4) = false := by simpa using c4
      clear c4
      cases t with
      | false =>
        rw [if_neg (by decide)] at h
        unfold spec_l04Root.add at h
        by_cases cl : out.length < 5864062014805
        · rw [if_pos cl] at h
          obtain ⟨rfl, rfl, hres⟩ : a1 = t1 ∧ a2 = t2 ∧ out ++ [⟨xa, xb, xc⟩] = res := by simpa using h
          clear h
          go_enter Try.func126, Try.ntmps126
          go_wp2_with (
            go_at_call 84; refine (spec_l01Once.calls g s0 s1 s2 ch false a1 a2 w0 _ HI.out HB.out HA.out).mono ?_
            rintro e W ⟨rfl, hi, hb, hk⟩
            have gne := (IsS86.ne_blk HI.out BK.out (by decide)).symm
            have xne := (IsS86.ne_blk HI.out BX.out (by decide)).symm
            replace BK := Aside0.mk (hk.blk BK.out gne (by simp))
            replace BX := Aside0.mk (hk.blk BX.out xne (by simp))
            replace HO := Aside0.mk (Kd.R_mono (Kd.R_keep (IsS86.apart HI.out HO.out (by decide)) hk (fun _ h => h.2)) (fun _ _ => trivial))
            replace KP := Aside0.mk (KP.out.of_keep hk (Or.inl (Or.inl rfl)))
            replace HS := Aside0.mk (Nat.lt_of_lt_of_le HS.out hk.1)
            replace HI := Aside0.mk hi
            replace HB := Aside0.mk hb
            clear hi hb hk gne xne hx0)
          go_wp2
          refine start_ (n := 9) (S := fun w' => w'.cell? ⟨gb, 1, none⟩ = some u ∧ w'.cell? ⟨w.heap.size, 0, none⟩ = some (.int .i64 xa) ∧ w'.cell? ⟨w.heap.size, 1, none⟩ = some (.int .i64 xb) ∧ w'.cell? ⟨w.heap.size, 2, none⟩ = some (.int .i64 xc)) (ds := [8]) #[false, false, false, false, false, false, false, false, false] (by kernel_rfl) rfl rfl ⟨(blk_cell BK.out 1).trans rfl, (blk_cell BX.out 0).trans rfl, (blk_cell BX.out 1).trans rfl, (blk_cell BX.out 2).trans rfl⟩ (fun hHeld => ?_)
          replace HI := Aside0.mk (IsS86.drew HI.out); replace HB := Aside0.mk (below_drew1 HB.out); replace BK := Aside0.mk (blk_drew BK.out); replace BX := Aside0.mk (blk_drew BX.out); replace HO := Aside0.mk (Kd.R_drew HO.out); replace KP := Aside0.mk (Kept.drew KP.out); replace HS := Aside0.mk (show w.heap.size < W.drew.heap.size from HS.out)
          generalize W.drew = W2 at HI HB BK BX HO KP HS hHeld ⊢
          refine pure_ (i := 0) (N := some 20) (v := ?_) (a' := ?_) #[true, false, false, false, false, false, false, false, false] rfl rfl (by kernel_rfl) (fun _ _ _ h => h) (Or.inl ⟨by rfl, ?_⟩) ?_ ?_
          rotate_left
          · intro w'
            go_simp
            with_reducible rfl
          rotate_left
          · simp only [Act.put, List.setIfInBounds_toArray, List.set_cons_zero, List.set_cons_succ, i64_w, i32_w]
            rfl
          refine pure_ (i := 1) (N := some 21) (v := ?_) (a' := ?_) #[true, true, false, false, false, false, false, false, false] rfl rfl (by kernel_rfl) (fun _ _ _ h => h) (Or.inl ⟨by rfl, ?_⟩) ?_ ?_
          rotate_left
          · intro w'
            go_simp
            with_reducible rfl
          rotate_left
          · simp only [Act.put, List.setIfInBounds_toArray, List.set_cons_zero, List.set_cons_succ, i64_w, i32_w]
            rfl
          refine pure_ (i := 2) (N := some 22) (v := ?_) (a' := ?_) #[true, true, true, false, false, false, false, false, false] rfl rfl (by kernel_rfl) (fun _ _ _ h => h) (Or.inl ⟨by rfl, ?_⟩) ?_ ?_
          rotate_left
          · intro w'
            go_simp
            with_reducible rfl
          rotate_left
          · simp only [Act.put, List.setIfInBounds_toArray, List.set_cons_zero, List.set_cons_succ, i64_w, i32_w]
            rfl
          refine take_ (i := 3) (N := some 23) (v := ?_) (a' := ?_) #[true, true, true, true, false, false, false, false, false] rfl rfl (by kernel_rfl) (fun _ _ _ h => h) (Or.inl ⟨by rfl, ?_⟩) hHeld ?_ ?_
          rotate_left
          · rintro w' ⟨s0, s1, s2, s3⟩
            go_simp
            with_reducible rfl
          rotate_left
          · simp only [Act.put, List.setIfInBounds_toArray, List.set_cons_zero, List.set_cons_succ, i64_w, i32_w]
            rfl
          refine take_ (i := 4) (N := some 24) (v := ?_) (a' := ?_) #[true, true, true, true, true, false, false, false, false] rfl rfl (by kernel_rfl) (fun _ _ _ h => h) (Or.inl ⟨by rfl, ?_⟩) hHeld ?_ ?_
          rotate_left
          · rintro w' ⟨s0, s1, s2, s3⟩
            go_simp
            with_reducible rfl
          rotate_left
          · simp only [Act.put, List.setIfInBounds_toArray, List.set_cons_zero, List.set_cons_succ, i64_w, i32_w]
            rfl
          refine one_ (i := 5) (N := some 25) #[true, true, true, true, true, true, false, false, false] rfl rfl (by kernel_rfl) (by decide) (fun K hK => ?_)
          refine value_ (w1 := ?_) (v := ?_) (by rfl) rfl ?_ ?_
          rotate_left 2
          · go_simp
            constructor
            · rfl
            · rfl
          refine hK.out _ _ ⟨(blk_cell (blk_alloc BK.out _) 1).trans rfl, (blk_cell (blk_alloc BX.out _) 0).trans rfl, (blk_cell (blk_alloc BX.out _) 1).trans rfl, (blk_cell (blk_alloc BX.out _) 2).trans rfl⟩ (fun hHeld => ?_)
          clear hK K
          refine norm_ (a' := ?_) ?_ ?_
          rotate_left
          · show Act.put _ (some 25) _ = _
            simp only [Act.put, List.setIfInBounds_toArray, List.set_cons_zero, List.set_cons_succ, i64_w, i32_w]
            rfl
          refine one_ (i := 6) (N := some 26) #[true, true, true, true, true, true, true, false, false] rfl rfl (by kernel_rfl) (by decide) (fun K hK => ?_)
          refine Kd.R_append_step k36 (w0 := W2) base (by rfl) (.tmp 23) (.tmp 25) 24 36 (.agg #[(.int .i64 0), (.int .i64 0), (.int .i64 0)]) 24 rfl Try.underlying24 info36 rfl (by decide) (by omega) u out (⟨xa, xb, xc⟩ : S36) [.int .i64 xa, .int .i64 xb, .int .i64 xc] (fun _ => True) (fun _ => False) rfl rfl ?aP (fun _ hk => hk.elim) ?aF ?aO ?aB ?aS ?aL ?_
          (case aP => exact k36_mkM _ _ _ (⟨xa, xb, xc⟩ : S36))
          (case aB => exact (Below.refl _ _))
          (case aF => exact (fun _ _ => trivial))
          (case aO => exact HO.out)
          (case aS => have := HS.out; omega)
          (case aL => omega)
          intro v1 W3 ho hb hg hat
          rw [hres] at ho
          obtain ⟨Ao, co, eo⟩ := Kd.R_slice ho; subst eo
          have hge : ∀ k, u.ownBlock = some k → base ≤ k := fun k hk => own_base (Kd.R_own HO.out).choose_spec k hk
          have hlt := Kd.R_lt HO.out
          have nx : some w.heap.size ≠ u.ownBlock := NX.out
          have BK3 := blk_grown BK.out hg (Kd.R_ne HO.out BK.out (by decide))
          have BX3 := blk_grown BX.out hg nx
          have HI3 := IsS86.grown HI.out hg (IsS86.own_ne HI.out HO.out (by decide))
          have HB3 := HB.out.trans (hb.mono hb0)
          have KP3 := Kept.of_grown hg KP.out (fun k hk => Or.inl (Or.inr (Or.inr hk.symm)))
          have HS3 : W2.heap.size ≤ W3.heap.size := hg.size
          refine hK.out _ _ ⟨(blk_cell BK3 1).trans rfl, (blk_cell BX3 0).trans rfl, (blk_cell BX3 1).trans rfl, (blk_cell BX3 2).trans rfl⟩ (fun hHeld => ?_)
          clear hK K
          refine norm_ (a' := ?_) ?_ ?_
          rotate_left
          · show Act.put _ (some 26) _ = _
            simp only [Act.put, List.setIfInBounds_toArray, List.set_cons_zero, List.set_cons_succ, i64_w, i32_w]
            rfl
          refine pure_ (i := 7) (N := some 27) (v := ?_) (a' := ?_) #[true, true, true, true, true, true, true, true, false] rfl rfl (by kernel_rfl) (fun _ _ _ h => h) (Or.inl ⟨by rfl, ?_⟩) ?_ ?_
          rotate_left
          · intro w'
            go_simp
            with_reducible rfl
          rotate_left
          · simp only [Act.put, List.setIfInBounds_toArray, List.set_cons_zero, List.set_cons_succ, i64_w, i32_w]
            rfl
          refine last_ (i := 8) (N := none) #[true, true, true, true, true, true, true, true, true] rfl rfl (by kernel_rfl) (by decide) (fun K hK => ?_)
          have hfz := blk_frozen BK3 1
          have hcz : W3.cell? ⟨gb, 1, none⟩ = some u := (blk_cell BK3 1).trans rfl
          refine skip_ (w1 := ?_) (by rfl) rfl ?_ ?_
          rotate_left
          · go_simp
            rfl
          refine hK.out _ _ ?_
          clear hK K
          refine done_ (by kernel_rfl) ?_
          go_wp2
          (try simp only [Exit.inBlock, Exit.then])
          refine bodyPost_ret (results_none rfl _ _ _) rfl ?_
          refine ⟨rfl, IsS86.far HI3 (IsS86.ne_blk HI3 BK3 (by decide)) _, HB3.setCell (by show w0.heap.size ≤ gb; omega) _, _, blk_put BK3 1 _ rfl, Kd.R_mono (Kd.R_far (p := ⟨gb, 1, none⟩) (Kd.R_types ho BK3 (by decide)) (fun _ hk => hk.2) _) (fun _ hk => trivial), KP3.setCell (Or.inl (Or.inr (Or.inl rfl))) _, ?_⟩
          rcases hat with hat | ⟨b, h1, h2⟩
          · exact Or.inl hat
          · exact Or.inr ⟨b, h1, by have := HS.out; omega⟩
        · rw [if_neg cl] at h; cases h
      | true =>
        rw [if_pos rfl] at h
        have HG := Aside0.mk h
        clear h
        go_enter Try.func126, Try.ntmps126
        go_wp2_with (
          go_at_call 84; refine (spec_l01Once.calls g s0 s1 s2 ch true a1 a2 w0 _ HI.out HB.out HA.out).mono ?_
          rintro e W ⟨rfl, hi, hb, hk⟩
          have gne := (IsS86.ne_blk HI.out BK.out (by decide)).symm
          have xne := (IsS86.ne_blk HI.out BX.out (by decide)).symm
          replace BK := Aside0.mk (hk.blk BK.out gne (by simp))
          replace BX := Aside0.mk (hk.blk BX.out xne (by simp))
          replace HO := Aside0.mk (Kd.R_mono (Kd.R_keep (IsS86.apart HI.out HO.out (by decide)) hk (fun _ h => h.2)) (fun _ _ => trivial))
          replace KP := Aside0.mk (KP.out.of_keep hk (Or.inl (Or.inl rfl)))
          replace HS := Aside0.mk (Nat.lt_of_lt_of_le HS.out hk.1)
          replace HI := Aside0.mk hi
          replace HB := Aside0.mk hb
          clear hi hb hk gne xne hx0)
        go_loopg [8] 2 (fun gg v8 wr => ∃ (kk : Nat) (b1 b2 : Int) (o1 : List S36) (u1 : Value), kk ≤ 2 ∧ 2 - kk ≤ gg ∧ v8 = .int .i64 kk ∧ Aside0 (IsS86 w0 wr g s0 b1 b2) ∧ Aside0 (Below w0.heap.size w0 wr) ∧ Aside0 (wr.heap[gb]? = some (.cells #[.int .i64 R, u1] 26 (0, 0))) ∧ Aside0 (Kd.R k36 36 wr base (fun _ => True) u1 o1) ∧ Aside0 (Kept w wr (fun k => k = g ∨ k = gb ∨ some k = u.ownBlock)) ∧ Aside0 (u1.ownBlock = u.ownBlock ∨ ∃ b, u1.ownBlock = some b ∧ w.heap.size < b) ∧ Aside0 (wr.heap[w.heap.size]? = some (.cells #[.int .i64 xa, .int .i64 xb, .int .i64 xc] 36 (0, 0))) ∧ Aside0 (w.heap.size < wr.heap.size) ∧ Aside0 (spec_l04Root.kids (fun a b y o => spec_l04Root.f d s0 a b y (wrap64 (ch + 1)) o) ⟨xa, xb, xc⟩ (2 - kk) kk b1 b2 o1 = some (t1, t2, res)))
        case atStart => exact ⟨0, a1, a2, out, u, by omega, by omega, rfl, HI, HB, BK, HO, KP, ⟨Or.inl rfl⟩, BX, HS, HG⟩
        case round =>
          clear HI HB BK HO KP BX HS HG
          obtain ⟨kk, b1, b2, o1, u1, hkk, hgk, rfl, HI, HB, BK, HO, KP, HU, BX, HS, HG⟩ := hrel
          have NR := Aside0.mk (show some w.heap.size ≠ u1.ownBlock from fun e => by
            rcases HU.out with hu | ⟨b, hu, hlt⟩
            · exact NX.out (e.trans hu)
            · rw [hu] at e; have := Option.some.inj e; omega)
          have hy0 : wr.cell? ⟨w.heap.size, 0, none⟩ = some (.int .i64 xa) := (blk_cell BX.out 0).trans rfl
          have hy1 : wr.cell? ⟨w.heap.size, 1, none⟩ = some (.int .i64 xb) := (blk_cell BX.out 1).trans rfl
          have hy2 : wr.cell? ⟨w.heap.size, 2, none⟩ = some (.int .i64 xc) := (blk_cell BX.out 2).trans rfl
          by_cases hlt : kk < 2
          · have hltz : (kk : Int) < 2 := by omega
            have HG2 := HG.out
            rw [show 2 - kk = (2 - (kk + 1)) + 1 by omega] at HG2
            unfold spec_l04Root.kids at HG2
            obtain ⟨⟨y0, y1, y2, yb⟩, hY, HG2⟩ := Option.bind_eq_some_iff.1 HG2
            obtain ⟨⟨v1, v2, v3⟩, hV, HG2⟩ := Option.bind_eq_some_iff.1 HG2
            have HY := Aside0.mk hY
            have HV := Aside0.mk hV
            have HN := Aside0.mk HG2
            clear hY hV HG2 HG
            go_wp2_with (first
              | (go_at_call 123; refine (spec_ChildOf.calls xa xb xc kk y0 y1 y2 yb _ HY.out).mono ?_
                 rintro e w5 ⟨rfl, hb5⟩
                 replace HI := Aside0.mk (HI.out.below hb5)
                 replace HB := Aside0.mk (below_step HB.out hb5)
                 replace BK := Aside0.mk (blk_below BK.out hb5)
                 replace BX := Aside0.mk (blk_below BX.out hb5)
                 replace HO := Aside0.mk (Kd.R_below HO.out hb5)
                 replace KP := Aside0.mk (KP.out.below hb5)
                 replace HS := Aside0.mk (Nat.lt_of_lt_of_le HS.out hb5.size)
                 clear hb5 hy0 hy1 hy2)
              | (go_at_call 126; refine (ih ⟨y0, y1, y2⟩ (wrap64 (ch + 1)) b1 b2 o1 u1 v1 v2 v3 _ ?i1 ?i2 ?i3 ?i4 ?i5 HV.out).mono ?_
                 (case i1 => exact HI.out.below (by repeat (first | exact Below.refl _ _ | refine Below.setCell ?_ (by simp) _ | refine Below.alloc ?_ (Nat.le_refl _) _)))
                 (case i2 => exact below_step HB.out (by repeat (first | exact Below.refl _ _ | refine Below.setCell ?_ (by simp) _ | refine Below.alloc ?_ (Nat.le_refl _) _)))
                 (case i3 => exact Nat.le_trans hbw (Nat.le_trans (Nat.le_of_lt HS.out) (Below.size (B := w5.heap.size) (w := w5) (by repeat (first | exact Below.refl _ _ | refine Below.setCell ?_ (by simp) _ | refine Below.alloc ?_ (Nat.le_refl _) _)))))
                 (case i4 => exact blk_below BK.out (by repeat (first | exact Below.refl _ _ | refine Below.setCell ?_ (by simp) _ | refine Below.alloc ?_ (Nat.le_refl _) _)))
                 (case i5 => exact Kd.R_below HO.out (by repeat (first | exact Below.refl _ _ | refine Below.setCell ?_ (by simp) _ | refine Below.alloc ?_ (Nat.le_refl _) _)))
                 rintro e w6 ⟨rfl, q1, q2, u2, q3, q4, q5, q6⟩
                 have gne := (IsS86.ne_blk HI.out BX.out (by decide)).symm
                 have bne := blk_ne BX.out BK.out (by decide)
                 have BX6 := blk_kept (blk_below BX.out (by repeat (first | exact Below.refl _ _ | refine Below.setCell ?_ (by simp) _ | refine Below.alloc ?_ (Nat.le_refl _) _))) q5 (by rintro (h | h | h); exact gne h; exact bne h; exact NR.out h)
                 have KP6 := (KP.out.below (W2 := _) (by repeat (first | exact Below.refl _ _ | refine Below.setCell ?_ (by simp) _ | refine Below.alloc ?_ (Nat.le_refl _) _))).then_ q5 (fun k hk => by
                   rcases hk with h | h | h
                   · exact Or.inl (Or.inl h)
                   · exact Or.inl (Or.inr (Or.inl h))
                   · rcases HU.out with hu | ⟨b, hu, hl⟩
                     · exact Or.inl (Or.inr (Or.inr (h.trans hu)))
                     · rw [hu] at h; have := Option.some.inj h; exact Or.inr (by omega))
                 have HS6 : w.heap.size < w6.heap.size := Nat.lt_of_lt_of_le HS.out (Nat.le_trans (Below.size (B := w5.heap.size) (w := w5) (by repeat (first | exact Below.refl _ _ | refine Below.setCell ?_ (by simp) _ | refine Below.alloc ?_ (Nat.le_refl _) _))) q5.1)
                 have HU6 : u2.ownBlock = u.ownBlock ∨ ∃ b, u2.ownBlock = some b ∧ w.heap.size < b := by
                   rcases q6 with hq | ⟨b, hq, hl⟩
                   · rw [hq]; exact HU.out
                   · exact Or.inr ⟨b, hq, Nat.lt_of_lt_of_le HS.out (Nat.le_trans (Below.size (B := w5.heap.size) (w := w5) (by repeat (first | exact Below.refl _ _ | refine Below.setCell ?_ (by simp) _ | refine Below.alloc ?_ (Nat.le_refl _) _))) hl)⟩))
            go_roundg (2 - (kk + 1))
            rotate_left
            · omega
            · exact ⟨kk + 1, v1, v2, v3, u2, by omega, by omega, by simp, ⟨q1⟩, ⟨q2⟩, ⟨q3⟩, ⟨q4⟩, ⟨KP6⟩, ⟨HU6⟩, ⟨BX6⟩, ⟨HS6⟩, ⟨HN.out⟩⟩
          · have hk2 : kk = 2 := by omega
            have HG2 := HG.out
            rw [hk2] at HG2
            obtain ⟨rfl, rfl, rfl⟩ : b1 = t1 ∧ b2 = t2 ∧ o1 = res := by simpa [spec_l04Root.kids] using HG2
            have hltz : ¬ (kk : Int) < 2 := by omega
            go_wp2
            go_end0
            refine ⟨rfl, HI.out, HB.out, u1, BK.out, HO.out, KP.out, ?_⟩
            rcases HU.out with hu | ⟨b, hu, hl⟩
            · exact Or.inl hu
            · exact Or.inr ⟨b, hu, by omega⟩
def spec_l04Mesh.go : Nat → List Int → Int → Int → Int → List S36 → Option (Int × Int × List S36)
  | 0, _, s1, s2, _, out => some (s1, s2, out)
  | n + 1, s0, s1, s2, r, out => (spec_l01Below.f s0 s1 s2 2).bind fun t => (spec_l04Root.f 6 s0 t.2.1 t.2.2 ⟨r, 0, 0⟩ (wrap64 (1 + t.1)) out).bind fun u => spec_l04Mesh.go n s0 u.1 u.2.1 (r + 1) u.2.2
def spec_l04Mesh.f (s0_0 : List Int) (s0_1 : Int) (s0_2 : Int) : Option (Int × (List S36) × Int × Int) := (spec_l01Below.f s0_0 s0_1 s0_2 3).bind fun t => (spec_l04Mesh.go (wrap64 (1 + t.1)).toNat s0_0 t.2.1 t.2.2 0 []).bind fun u => some (wrap64 (1 + t.1), u.2.2, u.1, u.2.1)
set_option maxHeartbeats 8000000 in
set_option maxRecDepth 100000 in
theorem spec_l04Mesh.calls (g : Nat) (s0_0 : List Int) (s0_1 : Int) (s0_2 : Int) (r1 : Int) (r2 : List (S36)) (r3 : Int) (r4 : Int) (w0 w : World) (hI : IsS86 w0 w g s0_0 s0_1 s0_2) (hB : Below w0.heap.size w0 w) (h : spec_l04Mesh.f s0_0 s0_1 s0_2 = some (r1, r2, r3, r4)) :
    Calls Try.prog 104 #[.pointer (some ⟨g, 0, none⟩)] w fun e w' => ∃ v_, e = .returned (.agg #[.int .i64 r1, v_]) ∧ Kd.R k36 36 w' w.heap.size (fun _ => True) v_ r2 ∧ IsS86 w0 w' g s0_0 r3 r4 ∧ Below w0.heap.size w0 w' ∧ KeepBut w w' g none := by
  have huM := Try.underlying26
  obtain ⟨⟨t, a1, a2⟩, hA, h⟩ := Option.bind_eq_some_iff.1 h
  obtain ⟨⟨b1, b2, bo⟩, hG, h⟩ := Option.bind_eq_some_iff.1 h
  dsimp only at h hG
  obtain ⟨hR, rfl, rfl, rfl⟩ : wrap64 (1 + t) = r1 ∧ bo = r2 ∧ b1 = r3 ∧ b2 = r4 := by simpa using h
  rw [hR] at hG
  have HM := Aside0.mk (show r1 ≤ 9223372036854775807 by rw [← hR]; unfold wrap64; omega)
  have HI := Aside0.mk hI
  have HB := Aside0.mk hB
  have HL := Aside0.mk hB.size
  have HA := Aside0.mk hA
  have HG := Aside0.mk hG
  clear hI hB hA hG h
  go_enter Try.func104, Try.ntmps104
  have BRi := blk_new w (.cells #[.int .i64 0, .slice none 0 0] 26)
  go_wp2_with (
    go_at_call 47; refine (spec_l01Below.calls g s0_0 s0_1 s0_2 3 t a1 a2 w0 _ (HI.out.alloc _) (below_alloc HB.out _) HA.out).mono ?_
    rintro e W ⟨rfl, hi, hb, hk⟩
    have rne := (IsS86.ne_blk (HI.out.alloc _) BRi (by decide)).symm
    have BR := Aside0.mk (hk.blk BRi rne (by simp))
    have KB := Aside0.mk (KeepBut.trans (keep_alloc (KeepBut.refl w g none) _) hk (.inl rfl))
    have HS := Aside0.mk (show w.heap.size < W.heap.size from Nat.lt_of_lt_of_le (by simp) hk.1)
    replace HI := Aside0.mk hi
    replace HB := Aside0.mk hb
    clear hi hb hk BRi)
  rw [hR]
  clear hR
  have hr0 : ((0 : Nat) : Int) = 0 := rfl
  go_loopg [4] r1.toNat (fun gg v4 wr => ∃ (kk : Nat) (c1 c2 : Int) (o1 : List S36) (u1 : Value), kk ≤ r1.toNat ∧ r1.toNat - kk ≤ gg ∧ v4 = .int .i64 kk ∧ Aside0 (IsS86 w0 wr g s0_0 c1 c2) ∧ Aside0 (Below w0.heap.size w0 wr) ∧ Aside0 (wr.heap[W.heap.size]? = some (.cells #[.int .i64 r1, u1] 26 (0, 0))) ∧ Aside0 (Kd.R k36 36 wr w.heap.size (fun _ => True) u1 o1) ∧ Aside0 (KeepBut w wr g none) ∧ Aside0 (wr.heap[w.heap.size]? = some (.cells #[.int .i64 0, .slice none 0 0] 26 (0, 0))) ∧ Aside0 (W.heap.size < wr.heap.size) ∧ Aside0 (spec_l04Mesh.go (r1.toNat - kk) s0_0 c1 c2 kk o1 = some (b1, b2, bo)))
  case atStart => exact ⟨0, a1, a2, [], .slice none 0 0, by omega, by omega, rfl, ⟨HI.out.alloc _⟩, ⟨below_alloc HB.out _⟩, ⟨blk_new W _⟩, ⟨Kd.R_nil _ _ _ _ _⟩, ⟨keep_alloc KB.out _⟩, ⟨blk_alloc BR.out _⟩, ⟨by simp⟩, HG⟩
  case round =>
    clear HI HB BR KB HG
    obtain ⟨kk, c1, c2, o1, u1, hkk, hgk, rfl, HI, HB, BK, HO, KB, BR, HW, HG⟩ := hrel
    have hc0 : wr.cell? ⟨W.heap.size, 0, none⟩ = some (.int .i64 r1) := (blk_cell BK.out 0).trans rfl
    have hc1 : wr.cell? ⟨W.heap.size, 1, none⟩ = some u1 := (blk_cell BK.out 1).trans rfl
    by_cases hlt : kk < r1.toNat
    · have hltz : (kk : Int) < r1 := by omega
      have hwk : wrap64 ((kk : Int) + 1) = (kk : Int) + 1 := by
        have := HM.out
        unfold wrap64
        omega
      have HG2 := HG.out
      rw [show r1.toNat - kk = (r1.toNat - (kk + 1)) + 1 by omega] at HG2
      unfold spec_l04Mesh.go at HG2
      obtain ⟨⟨y0, y1, y2⟩, hY, HG2⟩ := Option.bind_eq_some_iff.1 HG2
      obtain ⟨⟨v1, v2, v3⟩, hV, HG2⟩ := Option.bind_eq_some_iff.1 HG2
      have HY := Aside0.mk hY
      have HV := Aside0.mk hV
      have HN := Aside0.mk HG2
      clear hY hV HG2 HG
      go_wp2_with (first
        | (go_at_call 47; refine (spec_l01Below.calls g s0_0 c1 c2 2 y0 y1 y2 w0 _ HI.out HB.out HY.out).mono ?_
           rintro e w5 ⟨rfl, hi, hb, hk⟩
           have bne := (IsS86.ne_blk HI.out BK.out (by decide)).symm
           have rne := (IsS86.ne_blk HI.out BR.out (by decide)).symm
           replace BK := Aside0.mk (hk.blk BK.out bne (by simp))
           replace BR := Aside0.mk (hk.blk BR.out rne (by simp))
           replace HO := Aside0.mk (Kd.R_mono (Kd.R_keep (IsS86.apart HI.out HO.out (by decide)) hk (fun _ h => h.2)) (fun _ _ => trivial))
           replace KB := Aside0.mk (KeepBut.trans KB.out hk (.inl rfl))
           replace HW := Aside0.mk (Nat.lt_of_lt_of_le HW.out hk.1)
           replace HI := Aside0.mk hi
           replace HB := Aside0.mk hb
           clear hi hb hk bne rne hc0 hc1)
        | (go_at_call 126; refine (spec_l04Root.calls w0 w.heap.size g W.heap.size s0_0 r1 ?j1 ?j2 6 ⟨kk, 0, 0⟩ (wrap64 (1 + y0)) y1 y2 o1 u1 v1 v2 v3 _ HI.out HB.out ?j3 BK.out HO.out HV.out).mono ?_
           (case j1 => exact HL.out)
           (case j2 => have := HS.out; omega)
           (case j3 => have := HS.out; have := HW.out; omega)
           rintro e w6 ⟨rfl, q1, q2, u2, q3, q4, q5, q6⟩
           have rne := (IsS86.ne_blk HI.out BR.out (by decide)).symm
           have BR6 := blk_kept BR.out q5 (by rintro (h | h | h); exact rne h; (have := HS.out; omega); exact Kd.R_ne HO.out BR.out (by decide) h)
           have KB6 := Kept.keepG KB.out q5 (fun k hk => by
             rcases hk with h | h | h
             · exact Or.inl h
             · exact Or.inr (by have := HS.out; omega)
             · exact Or.inr (own_base (Kd.R_own HO.out).choose_spec k h.symm))
           have HW6 : W.heap.size < w6.heap.size := Nat.lt_of_lt_of_le HW.out q5.1))
      rw [hwk]
      go_roundg (r1.toNat - (kk + 1))
      rotate_left
      · omega
      · exact ⟨kk + 1, v1, v2, v3, u2, by omega, by omega, by simp, ⟨q1⟩, ⟨q2⟩, ⟨q3⟩, ⟨q4⟩, ⟨KB6⟩, ⟨BR6⟩, ⟨HW6⟩, ⟨HN.out⟩⟩
    · have hltz : ¬ (kk : Int) < r1 := by omega
      have HG2 := HG.out
      rw [show r1.toNat - kk = 0 by omega] at HG2
      obtain ⟨rfl, rfl, rfl⟩ : c1 = b1 ∧ c2 = b2 ∧ o1 = bo := by simpa [spec_l04Mesh.go] using HG2
      obtain ⟨Ao, co, eo⟩ := Kd.R_slice HO.out
      subst eo
      have hd0 : wr.cell? ⟨w.heap.size, 0, none⟩ = some (.int .i64 0) := (blk_cell BR.out 0).trans rfl
      have hd1 : wr.cell? ⟨w.heap.size, 1, none⟩ = some (.slice none 0 0) := (blk_cell BR.out 1).trans rfl
      have hf0 := blk_frozen BR.out 0
      have hf1 := blk_frozen BR.out 1
      have hnb : w.heap.size ≠ W.heap.size := by have := HS.out; omega
      go_wp2
      refine bodyPost_ret (results_cell_row rfl _ _ w.heap.size 26 #[.int .i64 r1, .slice Ao o1.length co] (0, 0) _ rfl (by refine blk_put (cs := #[.int .i64 r1, .slice none 0 0]) ?_ 1 _ rfl; refine blk_put (cs := #[.int .i64 0, .slice none 0 0]) ?_ 0 _ rfl; exact BR.out) Try.underlying26 rfl (by kernel_rfl)) rfl ?_
      refine ⟨_, rfl, ?_, ?_, ?_, ?_⟩
      · exact Kd.R_mono (Kd.R_far (p := ⟨w.heap.size, 1, none⟩) (Kd.R_far (p := ⟨w.heap.size, 0, none⟩) (Kd.R_types HO.out BR.out (by decide)) (fun _ hk => hk.2) _) (fun _ hk => hk.2) _) (fun _ hk => trivial)
      · exact IsS86.far (IsS86.far HI.out (IsS86.ne_blk HI.out BR.out (by decide)) _) (IsS86.ne_blk HI.out BR.out (by decide)) _
      · exact (HB.out.setCell (by have := HL.out; exact this) _).setCell (by have := HL.out; exact this) _
      · exact keep_far (p := ⟨w.heap.size, 1, none⟩) (keep_far (p := ⟨w.heap.size, 0, none⟩) KB.out (Nat.le_refl _) _) (Nat.le_refl _) _

/-! ### spec_l05Mesh: function 68 -/
def spec_l05Mesh.f (k : Nat) (s0_0 : List Int) (s0_1 : Int) (s0_2 : Int) : Option (Int × (List (S36)) × Int × Int) := (spec_l04Mesh.f s0_0 s0_1 s0_2).bind fun bt209 => ((spec_Balance.f k bt209.1 bt209.2.1).bind fun bt215 => (some (bt215.1, bt215.2, bt209.2.2.1, bt209.2.2.2)))
theorem spec_l05Mesh.mono : ∀ a0 a1 a2 k, LeO (spec_l05Mesh.f k a0 a1 a2) (spec_l05Mesh.f (k + 1) a0 a1 a2) := by
 intro a0 a1 a2 k
 unfold spec_l05Mesh.f
 repeat' first
   | (with_reducible exact spec_Balance.mono _ _ _)
   | (with_reducible exact LeO.refl _)
   | (with_reducible exact LeO.none _)
   | (with_reducible refine LeO.ite ?_ ?_)
   | (with_reducible refine LeO.bind ?_ (fun _ => ?_))
   | exact spec_Balance.mono _ _ _
   | exact LeO.none _
   | refine LeO.ite ?_ ?_
   | refine LeO.bind ?_ (fun _ => ?_)
set_option maxHeartbeats 8000000 in
set_option maxRecDepth 100000 in
theorem spec_l05Mesh.calls (k : Nat) (g : Nat) (s0_0 : List Int) (s0_1 : Int) (s0_2 : Int) (r1 : Int) (r2 : List (S36)) (r3 : Int) (r4 : Int) (w0 w : World) (hI : IsS86 w0 w g s0_0 s0_1 s0_2) (hB : Below w0.heap.size w0 w) (h : spec_l05Mesh.f k s0_0 s0_1 s0_2 = some (r1, r2, r3, r4)) :
  Calls Try.prog 68 #[.pointer (some ⟨g, 0, none⟩)] w fun e w' => ∃ v1_ : Value, e = .returned (.agg #[.int .i64 r1, v1_]) ∧ Kd.R k36 36 w' w.heap.size (fun _ => True) v1_ r2 ∧ IsS86 w0 w' g s0_0 r3 r4 ∧ Below w0.heap.size w0 w' ∧ KeepBut w w' g none := by
 have hu26 := Try.underlying26
 have HI0 := Aside0.mk hI
 have HK := Aside0.mk (KeepBut.refl w g none)
 have HL := Aside0.mk hB.size
 clear hI
 have HW0 := Aside0.mk hB.size
 have HB := Aside0.mk hB
 clear hB
 have H : ((spec_l04Mesh.f s0_0 s0_1 s0_2).bind fun bt209 => ((spec_Balance.f k bt209.1 bt209.2.1).bind fun bt215 => (some (bt215.1, bt215.2, bt209.2.2.1, bt209.2.2.2)))) = some (r1, r2, r3, r4) := h
 clear h
 replace H := Option.bind_eq_some_iff.mp H
 obtain ⟨⟨t209, t210, t213, t214⟩, A20, H⟩ := H
 (try dsimp only at H)
 have A2 := Aside0.mk A20
 clear A20
 replace H := Option.bind_eq_some_iff.mp H
 obtain ⟨⟨t215, t216⟩, A30, H⟩ := H
 (try dsimp only at H)
 have A3 := Aside0.mk A30
 clear A30
 simp only [Option.some.injEq, Prod.mk.injEq] at H
 obtain ⟨rfl, rfl, rfl, rfl⟩ := H
 go_enter Try.func68, Try.ntmps68
 go_wp2_with (first | ((with_reducible refine gate_dst (N := 2) rfl ?_); refine bxe_ 2 #[.int .i64 0, .slice none 0 0] 26 ?_; intro gb208 hg w4 hbox hb; have n0_ := Aside0.mk (IsS86.below (cI86_ HI0.out) hb); have n1_ := Aside0.mk (KeepBut.trans (cK_ HK.out) (KeepBut.of_below hb g none) (.inl rfl)); have n2_ := Aside0.mk (below_step (cBI86_ HB.out HI0.out) hb); have n3_ := Aside0.mk (hbox); have n4_ := Aside0.mk ((by rw [hg]; exact (keep_size (w := w) (g := g) (row := none) (cK_ HK.out)) : w.heap.size ≤ gb208)); have n5_ := Aside0.mk ((Nat.le_trans HW0.out (by rw [hg]; exact (keep_size (w := w) (g := g) (row := none) (cK_ HK.out)) : w.heap.size ≤ gb208) : w0.heap.size ≤ gb208)); have n6_ := Aside0.mk ((by rw [hg]; exact Nat.ne_of_lt (IsS86.lt (show IsS86 w0 _ g s0_0 s0_1 s0_2 from cI86_ HI0.out)) : g ≠ gb208)); have n7_ := Aside0.mk ((by rw [hg]; exact Nat.ne_of_gt (IsS86.lt (show IsS86 w0 _ g s0_0 s0_1 s0_2 from cI86_ HI0.out)) : gb208 ≠ g)); clear HI0; clear HK; clear HB; have HI0 := n0_; have HK := n1_; have HB := n2_; have BK208 := n3_; have GW208 := n4_; have GE208 := n5_; have NB0_208 := n6_; have NB208_0 := n7_; clear n0_ n1_ n2_ n3_ n4_ n5_ n6_ n7_; clear hb hbox hg) | ((with_reducible refine gate_callee (f := 104) rfl ?_); refine goesL_ (some 4) rfl rfl Try.func104 (by kernel_rfl) rfl #[.pointer (some ⟨g, 0, none⟩)] rfl (by (try simp only [List.map_toArray, List.map_cons, List.map_nil]); first | done | rfl | (simp only [List.length_drop, List.length_take]; rfl)) ?_; (with_reducible refine (spec_l04Mesh.calls g s0_0 s0_1 s0_2 t209 t210 t213 t214 w0 _ ?side1 ?side2 A2.out).mono ?_); (case side1 => exact cI86_ HI0.out); (case side2 => exact cBI86_ HB.out HI0.out); rintro e w5 ⟨v211, rfl, ho0, hi, hb, hk⟩; refine ⟨_, rfl, ?_⟩; have n0_ := Aside0.mk (KeepBut.blk hk (g' := gb208) (o := .cells #[.int .i64 0, .slice none 0 0] 26 (0, 0)) (cb_ BK208.out) NB208_0.out (by simp)); have n1_ := Aside0.mk (Kd.R_lower ho0 (keep_size (w := w) (g := g) (row := none) (cK_ HK.out))); have n2_ := Aside0.mk (KeepBut.trans (cK_ HK.out) hk (.inl rfl)); have n3_ := Aside0.mk (hb); have n4_ := Aside0.mk (hi); clear BK208; clear HK; clear HB; clear HI0; have BK208 := n0_; have HO212 := n1_; have HK := n2_; have HB := n3_; have HI0 := n4_; clear n0_ n1_ n2_ n3_ n4_; (try clear hb); (try clear hb2); (try clear hk); (try clear hi); (try clear ho0); obtain ⟨Ao6, co6, eo6⟩ := Kd.R_slice HO212.out; subst eo6) | ((with_reducible refine gate_callee (f := 103) rfl ?_); refine goesL_ (some 5) rfl rfl Try.func103 (by kernel_rfl) rfl #[.agg #[.int .i64 t209, .slice Ao6 t210.length co6]] rfl (by (try simp only [List.map_toArray, List.map_cons, List.map_nil]); first | done | rfl | (simp only [List.length_drop, List.length_take]; rfl)) ?_; (with_reducible refine (spec_Balance.calls k t209 _ _ t210 t215 t216 _ ?side1 ?side2 A3.out).mono ?_); (case side1 => repeat (first | exact (Kd.R_reads' HO212.out).2.2 | (with_reducible refine Kd.C_alloc ?_ _) | (with_reducible refine Kd.C_drewN ?_ _) | (with_reducible refine Kd.C_drew ?_))); (case side2 => exact (Kd.R_reads' HO212.out).2.1); rintro e w7 ⟨v217, rfl, ho0, hb⟩; refine ⟨_, rfl, ?_⟩; have n0_ := Aside0.mk (Kd.R_elder' (cR_ HO212.out) (Kd.R_base ho0) hb); have n1_ := Aside0.mk (Kd.R_lower (Kd.R_new' ho0 (Kd.R_lt (cR_ HO212.out))) (keep_size (w := w) (g := g) (row := none) (cK_ HK.out))); have n2_ := Aside0.mk (IsS86.below (cI86_ HI0.out) hb); have n3_ := Aside0.mk (blk_bel BK208.out hb); have n4_ := Aside0.mk (KeepBut.trans (cK_ HK.out) (KeepBut.of_below hb g none) (.inl rfl)); have n5_ := Aside0.mk (below_step (cBI86_ HB.out HI0.out) hb); clear HO212; clear HI0; clear BK208; clear HK; clear HB; have HO212 := n0_; have HO218 := n1_; have HI0 := n2_; have BK208 := n3_; have HK := n4_; have HB := n5_; clear n0_ n1_ n2_ n3_ n4_ n5_; (try clear hb); (try clear hb2); (try clear hk); (try clear hi); (try clear ho0); have hnb8 := NB208_0.out; have hnc8 := NB0_208.out; have hcz9 := cl2_ BK208.out; have hfz9 := fr2_ BK208.out; obtain ⟨Ao10, co10, eo10⟩ := Kd.R_slice HO218.out; subst eo10))
 refine bodyPost_ret (results_cell_row rfl _ _ gb208 26 #[.int .i64 t215, .slice Ao10 t216.length co10] (0, 0) _ rfl (by (with_reducible repeat first | apply blk_drewN | apply blk_drew | apply blk_alloc); refine blk_put (cs := #[.int .i64 t215, .slice none 0 0]) ?_ 1 _ rfl; (with_reducible repeat first | apply blk_drewN | apply blk_drew | apply blk_alloc); refine blk_put (cs := #[.int .i64 0, .slice none 0 0]) ?_ 0 _ rfl; (with_reducible repeat first | apply blk_drewN | apply blk_drew | apply blk_alloc); exact BK208.out) Try.underlying26 rfl (by kernel_rfl)) rfl ?_
 exact ⟨_, by first | rfl | (simp [*, errW_none, errW_some] <;> rfl), by (with_reducible repeat first | apply Kd.R_alloc | apply Kd.R_drewN | apply Kd.R_drew); exact Kd.R_mono (Kd.R_far (p := ⟨gb208, 1, none⟩) (Kd.R_far (p := ⟨gb208, 0, none⟩) (Kd.R_types HO218.out BK208.out (by decide)) (fun _ hk => hk.2) (.int .i64 t215)) (fun _ hk => hk.2) (.slice Ao10 t216.length co10)) (fun _ hk => trivial), cI86_ HI0.out, cBI86_ HB.out HI0.out, cK_ HK.out⟩

end Go.Proofs.Ytbkkehjhfgocfaa.PFnTransferred
