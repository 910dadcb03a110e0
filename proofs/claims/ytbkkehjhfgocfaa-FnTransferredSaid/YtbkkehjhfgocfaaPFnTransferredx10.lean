/- Written by this repo's own copy of a print: plain functions beneath a law, and the proof that the program computes them; no condition. -/
import Derived.Test.YtbkkehjhfgocfaaPFnTransferredx0
import Derived.Test.YtbkkehjhfgocfaaPFnTransferredx2
import Derived.Test.YtbkkehjhfgocfaaPFnTransferredx3
import Derived.Test.YtbkkehjhfgocfaaPFnTransferredx7
namespace Go.Proofs.Ytbkkehjhfgocfaa.PFnTransferred
open Go.RowKit Go.Proofs.YtbkkehjhfgocfaaW.PrintWords Go.Proofs.YtbkkehjhfgocfaaW.PrintLast Go.Proofs.YtbkkehjhfgocfaaW.PrintMore
attribute [local go_sem] max2_int min2_int max_two min_two max_three min_three max_four min_four   -- for this text's walks alone
set_option linter.unusedVariables false
set_option linter.unusedSimpArgs false

/-! ### impl_Mesh_toRefine: function 90 -/
def impl_Mesh_toRefine.f (k : Nat) (a0_0 : Int) (l0_1 : List (S36)) : Option (Int) := (impl_Mesh_unbalanced.f k a0_0 l0_1).bind fun t413 => (if t413 ≥ 0 then (if 0 ≤ t413 then (if t413 < (l0_1.length : Int) then (if 0 ≤ (wrap64 (t413 + 1)) then (if (wrap64 (t413 + 1)) < (l0_1.length : Int) then (if ((rd_T36 l0_1 t413).f1) > ((rd_T36 l0_1 (wrap64 (t413 + 1))).f1) then (some (wrap64 (t413 + 1))) else (some t413)) else (none)) else (none)) else (none)) else (none)) else (some t413))
theorem impl_Mesh_toRefine.mono : ∀ a0 a1 k, LeO (impl_Mesh_toRefine.f k a0 a1) (impl_Mesh_toRefine.f (k + 1) a0 a1) := by
 intro a0 a1 k
 unfold impl_Mesh_toRefine.f
 repeat' first
   | (with_reducible exact impl_Mesh_unbalanced.mono _ _ _)
   | (with_reducible exact LeO.refl _)
   | (with_reducible exact LeO.none _)
   | (with_reducible refine LeO.ite ?_ ?_)
   | (with_reducible refine LeO.bind ?_ (fun _ => ?_))
   | exact impl_Mesh_unbalanced.mono _ _ _
   | exact LeO.none _
   | refine LeO.ite ?_ ?_
   | refine LeO.bind ?_ (fun _ => ?_)
set_option maxHeartbeats 8000000 in
set_option maxRecDepth 100000 in
theorem impl_Mesh_toRefine.calls (k : Nat) (a0_0 : Int) (A0_1 : Option Addr) (c0_1 : Nat) (l0_1 : List (S36)) (r : Int) (w : World) (hr0_1 : Kd.C k36 w A0_1 l0_1.length l0_1) (hc0_1 : l0_1.length ≤ c0_1) (h : impl_Mesh_toRefine.f k a0_0 l0_1 = some r) :
  Calls Try.prog 90 #[.agg #[.int .i64 a0_0, .slice A0_1 l0_1.length c0_1]] w fun e w' => e = .returned (.int .i64 r) ∧ Below w.heap.size w w' := by
 have hu26 := Try.underlying26
 have HR0_1 := Aside0.mk hr0_1
 have HC0_1 := Aside0.mk hc0_1
 clear hr0_1 hc0_1
 have HB := Aside0.mk (Below.refl w.heap.size w)
 have H : ((impl_Mesh_unbalanced.f k a0_0 l0_1).bind fun t413 => (if t413 ≥ 0 then (if 0 ≤ t413 then (if t413 < (l0_1.length : Int) then (if 0 ≤ (wrap64 (t413 + 1)) then (if (wrap64 (t413 + 1)) < (l0_1.length : Int) then (if ((rd_T36 l0_1 t413).f1) > ((rd_T36 l0_1 (wrap64 (t413 + 1))).f1) then (some (wrap64 (t413 + 1))) else (some t413)) else (none)) else (none)) else (none)) else (none)) else (some t413))) = some r := h
 clear h
 replace H := Option.bind_eq_some_iff.mp H
 obtain ⟨t413, A20, H⟩ := H
 (try dsimp only at H)
 have A2 := Aside0.mk A20
 clear A20
 by_cases c3 : t413 ≥ 0
 ·
  rw [if_pos c3] at H
  have c3b0 : decide (0 ≤ t413) = true := decide_eq_true c3
  clear c3
  by_cases c4 : 0 ≤ t413
  ·
   rw [if_pos c4] at H
   have c4b0 : decide (0 ≤ t413) = true := decide_eq_true c4
   clear c4
   by_cases c5 : t413 < (l0_1.length : Int)
   ·
    rw [if_pos c5] at H
    have c5b0 : decide (t413 < (l0_1.length : Int)) = true := decide_eq_true c5
    clear c5
    obtain ⟨ji6, hji6⟩ : ∃ j_ : Int, (wrap64 (t413 + 1)) = j_ := ⟨_, rfl⟩
    replace H : (if 0 ≤ (ji6) then (if (ji6) < (l0_1.length : Int) then (if ((rd_T36 l0_1 t413).f1) > ((rd_T36 l0_1 (ji6)).f1) then (some ji6) else (some t413)) else (none)) else (none)) = some r := by first | (rw [hji6] at H; exact H) | (simp only [hji6] at H ⊢; exact H)
    (try rw [hji6] at A2)
    have hji6w : (IntKind.i64.wrap (t413 + 1)) = ji6 := (i64_w _).trans hji6
    by_cases c7 : 0 ≤ (ji6)
    ·
     rw [if_pos c7] at H
     have c7b0 : decide (0 ≤ (ji6)) = true := decide_eq_true c7
     clear c7
     by_cases c8 : (ji6) < (l0_1.length : Int)
     ·
      rw [if_pos c8] at H
      have c8b0 : decide ((ji6) < (l0_1.length : Int)) = true := decide_eq_true c8
      clear c8
      by_cases c9 : ((rd_T36 l0_1 t413).f1) > ((rd_T36 l0_1 (ji6)).f1)
      ·
       rw [if_pos c9] at H
       have c9b0 : decide (((rd_T36 l0_1 (ji6)).f1) < ((rd_T36 l0_1 t413).f1)) = true := decide_eq_true c9
       clear c9
       obtain rfl := Option.some.inj H
       go_enter Try.func90, Try.ntmps90
       go_wp2_with (first | ((with_reducible refine gate_dst (N := 1) rfl ?_); refine bxe_ 1 #[.int .i64 a0_0, .slice A0_1 l0_1.length c0_1] 26 ?_; intro gb412 hg w10 hbox hb; have n0_ := Aside0.mk (bst_ HB.out hb); have n1_ := Aside0.mk (hbox); have n2_ := Aside0.mk (gz_ hg (bsz_ HB.out)); have n3_ := Aside0.mk (gz_ hg (bsz_ HB.out)); clear HB; have HB := n0_; have BK412 := n1_; have GW412 := n2_; have GE412 := n3_; clear n0_ n1_ n2_ n3_; clear hb hbox hg; have hcz11 := cl2_ BK412.out; have hfz11 := fr2_ BK412.out) | (go_at_call 102; (with_reducible refine (impl_Mesh_unbalanced.calls k a0_0 _ _ l0_1 t413 _ ?side1 ?side2 A2.out).mono ?_); (case side1 => exact cC_ HR0_1.out HB.out); (case side2 => exact HC0_1.out); rintro e w12 ⟨rfl, hb⟩; have n0_ := Aside0.mk (blk_bel BK412.out hb); have n1_ := Aside0.mk (cBs_ HB.out hb); clear BK412; clear HB; have BK412 := n0_; have HB := n1_; clear n0_ n1_; (try clear hb); (try clear hb2); (try clear hk); (try clear hi); have hcz13 := cl2_ BK412.out; have hfz13 := fr2_ BK412.out; have p414 : 0 ≤ (t413 : Int) := of_decide_eq_true (by first | (with_reducible assumption) | assumption); have q414 : t413 < (l0_1.length : Int) := of_decide_eq_true (by first | (with_reducible assumption) | assumption); obtain ⟨ad414, e414, hx414_0, hx414_1, hx414_2⟩ := at_T36 HR0_1.out t413 p414 q414; cases e414; replace hx414_0 := bce_ HB.out hx414_0; replace hx414_1 := bce_ HB.out hx414_1; replace hx414_2 := bce_ HB.out hx414_2; replace p414 := eq_true p414; replace q414 := eq_true q414; have p415 : 0 ≤ ((ji6) : Int) := of_decide_eq_true (by first | (with_reducible assumption) | assumption); have q415 : (ji6) < (l0_1.length : Int) := of_decide_eq_true (by first | (with_reducible assumption) | assumption); obtain ⟨ad415, e415, hx415_0, hx415_1, hx415_2⟩ := at_T36 HR0_1.out (ji6) p415 q415; obtain rfl : ad414 = ad415 := (by injection e415); replace hx415_0 := bce_ HB.out hx415_0; replace hx415_1 := bce_ HB.out hx415_1; replace hx415_2 := bce_ HB.out hx415_2; replace p415 := eq_true p415; replace q415 := eq_true q415))
       repeat (go_quiet (first | ((with_reducible refine gate_dst (N := 1) rfl ?_); refine bxe_ 1 #[.int .i64 a0_0, .slice A0_1 l0_1.length c0_1] 26 ?_; intro gb412 hg w10 hbox hb; have n0_ := Aside0.mk (bst_ HB.out hb); have n1_ := Aside0.mk (hbox); have n2_ := Aside0.mk (gz_ hg (bsz_ HB.out)); have n3_ := Aside0.mk (gz_ hg (bsz_ HB.out)); clear HB; have HB := n0_; have BK412 := n1_; have GW412 := n2_; have GE412 := n3_; clear n0_ n1_ n2_ n3_; clear hb hbox hg; have hcz11 := cl2_ BK412.out; have hfz11 := fr2_ BK412.out) | (go_at_call 102; (with_reducible refine (impl_Mesh_unbalanced.calls k a0_0 _ _ l0_1 t413 _ ?side1 ?side2 A2.out).mono ?_); (case side1 => exact cC_ HR0_1.out HB.out); (case side2 => exact HC0_1.out); rintro e w12 ⟨rfl, hb⟩; have n0_ := Aside0.mk (blk_bel BK412.out hb); have n1_ := Aside0.mk (cBs_ HB.out hb); clear BK412; clear HB; have BK412 := n0_; have HB := n1_; clear n0_ n1_; (try clear hb); (try clear hb2); (try clear hk); (try clear hi); have hcz13 := cl2_ BK412.out; have hfz13 := fr2_ BK412.out; have p414 : 0 ≤ (t413 : Int) := of_decide_eq_true (by first | (with_reducible assumption) | assumption); have q414 : t413 < (l0_1.length : Int) := of_decide_eq_true (by first | (with_reducible assumption) | assumption); obtain ⟨ad414, e414, hx414_0, hx414_1, hx414_2⟩ := at_T36 HR0_1.out t413 p414 q414; cases e414; replace hx414_0 := bce_ HB.out hx414_0; replace hx414_1 := bce_ HB.out hx414_1; replace hx414_2 := bce_ HB.out hx414_2; replace p414 := eq_true p414; replace q414 := eq_true q414; have p415 : 0 ≤ ((ji6) : Int) := of_decide_eq_true (by first | (with_reducible assumption) | assumption); have q415 : (ji6) < (l0_1.length : Int) := of_decide_eq_true (by first | (with_reducible assumption) | assumption); obtain ⟨ad415, e415, hx415_0, hx415_1, hx415_2⟩ := at_T36 HR0_1.out (ji6) p415 q415; obtain rfl : ad414 = ad415 := (by injection e415); replace hx415_0 := bce_ HB.out hx415_0; replace hx415_1 := bce_ HB.out hx415_1; replace hx415_2 := bce_ HB.out hx415_2; replace p415 := eq_true p415; replace q415 := eq_true q415)); try go_wp2_with (first | ((with_reducible refine gate_dst (N := 1) rfl ?_); refine bxe_ 1 #[.int .i64 a0_0, .slice A0_1 l0_1.length c0_1] 26 ?_; intro gb412 hg w10 hbox hb; have n0_ := Aside0.mk (bst_ HB.out hb); have n1_ := Aside0.mk (hbox); have n2_ := Aside0.mk (gz_ hg (bsz_ HB.out)); have n3_ := Aside0.mk (gz_ hg (bsz_ HB.out)); clear HB; have HB := n0_; have BK412 := n1_; have GW412 := n2_; have GE412 := n3_; clear n0_ n1_ n2_ n3_; clear hb hbox hg; have hcz11 := cl2_ BK412.out; have hfz11 := fr2_ BK412.out) | (go_at_call 102; (with_reducible refine (impl_Mesh_unbalanced.calls k a0_0 _ _ l0_1 t413 _ ?side1 ?side2 A2.out).mono ?_); (case side1 => exact cC_ HR0_1.out HB.out); (case side2 => exact HC0_1.out); rintro e w12 ⟨rfl, hb⟩; have n0_ := Aside0.mk (blk_bel BK412.out hb); have n1_ := Aside0.mk (cBs_ HB.out hb); clear BK412; clear HB; have BK412 := n0_; have HB := n1_; clear n0_ n1_; (try clear hb); (try clear hb2); (try clear hk); (try clear hi); have hcz13 := cl2_ BK412.out; have hfz13 := fr2_ BK412.out; have p414 : 0 ≤ (t413 : Int) := of_decide_eq_true (by first | (with_reducible assumption) | assumption); have q414 : t413 < (l0_1.length : Int) := of_decide_eq_true (by first | (with_reducible assumption) | assumption); obtain ⟨ad414, e414, hx414_0, hx414_1, hx414_2⟩ := at_T36 HR0_1.out t413 p414 q414; cases e414; replace hx414_0 := bce_ HB.out hx414_0; replace hx414_1 := bce_ HB.out hx414_1; replace hx414_2 := bce_ HB.out hx414_2; replace p414 := eq_true p414; replace q414 := eq_true q414; have p415 : 0 ≤ ((ji6) : Int) := of_decide_eq_true (by first | (with_reducible assumption) | assumption); have q415 : (ji6) < (l0_1.length : Int) := of_decide_eq_true (by first | (with_reducible assumption) | assumption); obtain ⟨ad415, e415, hx415_0, hx415_1, hx415_2⟩ := at_T36 HR0_1.out (ji6) p415 q415; obtain rfl : ad414 = ad415 := (by injection e415); replace hx415_0 := bce_ HB.out hx415_0; replace hx415_1 := bce_ HB.out hx415_1; replace hx415_2 := bce_ HB.out hx415_2; replace p415 := eq_true p415; replace q415 := eq_true q415)))
       go_ret
       exact ⟨by first | rfl | (simp [errW_none, errW_some] <;> rfl) | (simp only [← hji6]; first | rfl | (simp [errW_none, errW_some] <;> rfl)) | (simp [*, errW_none, errW_some] <;> rfl), cB_ HB.out⟩
      ·
       rw [if_neg c9] at H
       have c9b0 : decide (((rd_T36 l0_1 (ji6)).f1) < ((rd_T36 l0_1 t413).f1)) = false := decide_eq_false c9
       clear c9
       obtain rfl := Option.some.inj H
       go_enter Try.func90, Try.ntmps90
       go_wp2_with (first | ((with_reducible refine gate_dst (N := 1) rfl ?_); refine bxe_ 1 #[.int .i64 a0_0, .slice A0_1 l0_1.length c0_1] 26 ?_; intro gb412 hg w14 hbox hb; have n0_ := Aside0.mk (bst_ HB.out hb); have n1_ := Aside0.mk (hbox); have n2_ := Aside0.mk (gz_ hg (bsz_ HB.out)); have n3_ := Aside0.mk (gz_ hg (bsz_ HB.out)); clear HB; have HB := n0_; have BK412 := n1_; have GW412 := n2_; have GE412 := n3_; clear n0_ n1_ n2_ n3_; clear hb hbox hg; have hcz15 := cl2_ BK412.out; have hfz15 := fr2_ BK412.out) | (go_at_call 102; (with_reducible refine (impl_Mesh_unbalanced.calls k a0_0 _ _ l0_1 t413 _ ?side1 ?side2 A2.out).mono ?_); (case side1 => exact cC_ HR0_1.out HB.out); (case side2 => exact HC0_1.out); rintro e w16 ⟨rfl, hb⟩; have n0_ := Aside0.mk (blk_bel BK412.out hb); have n1_ := Aside0.mk (cBs_ HB.out hb); clear BK412; clear HB; have BK412 := n0_; have HB := n1_; clear n0_ n1_; (try clear hb); (try clear hb2); (try clear hk); (try clear hi); have hcz17 := cl2_ BK412.out; have hfz17 := fr2_ BK412.out; have p414 : 0 ≤ (t413 : Int) := of_decide_eq_true (by first | (with_reducible assumption) | assumption); have q414 : t413 < (l0_1.length : Int) := of_decide_eq_true (by first | (with_reducible assumption) | assumption); obtain ⟨ad414, e414, hx414_0, hx414_1, hx414_2⟩ := at_T36 HR0_1.out t413 p414 q414; cases e414; replace hx414_0 := bce_ HB.out hx414_0; replace hx414_1 := bce_ HB.out hx414_1; replace hx414_2 := bce_ HB.out hx414_2; replace p414 := eq_true p414; replace q414 := eq_true q414; have p415 : 0 ≤ ((ji6) : Int) := of_decide_eq_true (by first | (with_reducible assumption) | assumption); have q415 : (ji6) < (l0_1.length : Int) := of_decide_eq_true (by first | (with_reducible assumption) | assumption); obtain ⟨ad415, e415, hx415_0, hx415_1, hx415_2⟩ := at_T36 HR0_1.out (ji6) p415 q415; obtain rfl : ad414 = ad415 := (by injection e415); replace hx415_0 := bce_ HB.out hx415_0; replace hx415_1 := bce_ HB.out hx415_1; replace hx415_2 := bce_ HB.out hx415_2; replace p415 := eq_true p415; replace q415 := eq_true q415))
       repeat (go_quiet (first | ((with_reducible refine gate_dst (N := 1) rfl ?_); refine bxe_ 1 #[.int .i64 a0_0, .slice A0_1 l0_1.length c0_1] 26 ?_; intro gb412 hg w14 hbox hb; have n0_ := Aside0.mk (bst_ HB.out hb); have n1_ := Aside0.mk (hbox); have n2_ := Aside0.mk (gz_ hg (bsz_ HB.out)); have n3_ := Aside0.mk (gz_ hg (bsz_ HB.out)); clear HB; have HB := n0_; have BK412 := n1_; have GW412 := n2_; have GE412 := n3_; clear n0_ n1_ n2_ n3_; clear hb hbox hg; have hcz15 := cl2_ BK412.out; have hfz15 := fr2_ BK412.out) | (go_at_call 102; (with_reducible refine (impl_Mesh_unbalanced.calls k a0_0 _ _ l0_1 t413 _ ?side1 ?side2 A2.out).mono ?_); (case side1 => exact cC_ HR0_1.out HB.out); (case side2 => exact HC0_1.out); rintro e w16 ⟨rfl, hb⟩; have n0_ := Aside0.mk (blk_bel BK412.out hb); have n1_ := Aside0.mk (cBs_ HB.out hb); clear BK412; clear HB; have BK412 := n0_; have HB := n1_; clear n0_ n1_; (try clear hb); (try clear hb2); (try clear hk); (try clear hi); have hcz17 := cl2_ BK412.out; have hfz17 := fr2_ BK412.out; have p414 : 0 ≤ (t413 : Int) := of_decide_eq_true (by first | (with_reducible assumption) | assumption); have q414 : t413 < (l0_1.length : Int) := of_decide_eq_true (by first | (with_reducible assumption) | assumption); obtain ⟨ad414, e414, hx414_0, hx414_1, hx414_2⟩ := at_T36 HR0_1.out t413 p414 q414; cases e414; replace hx414_0 := bce_ HB.out hx414_0; replace hx414_1 := bce_ HB.out hx414_1; replace hx414_2 := bce_ HB.out hx414_2; replace p414 := eq_true p414; replace q414 := eq_true q414; have p415 : 0 ≤ ((ji6) : Int) := of_decide_eq_true (by first | (with_reducible assumption) | assumption); have q415 : (ji6) < (l0_1.length : Int) := of_decide_eq_true (by first | (with_reducible assumption) | assumption); obtain ⟨ad415, e415, hx415_0, hx415_1, hx415_2⟩ := at_T36 HR0_1.out (ji6) p415 q415; obtain rfl : ad414 = ad415 := (by injection e415); replace hx415_0 := bce_ HB.out hx415_0; replace hx415_1 := bce_ HB.out hx415_1; replace hx415_2 := bce_ HB.out hx415_2; replace p415 := eq_true p415; replace q415 := eq_true q415)); try go_wp2_with (first | ((with_reducible refine gate_dst (N := 1) rfl ?_); refine bxe_ 1 #[.int .i64 a0_0, .slice A0_1 l0_1.length c0_1] 26 ?_; intro gb412 hg w14 hbox hb; have n0_ := Aside0.mk (bst_ HB.out hb); have n1_ := Aside0.mk (hbox); have n2_ := Aside0.mk (gz_ hg (bsz_ HB.out)); have n3_ := Aside0.mk (gz_ hg (bsz_ HB.out)); clear HB; have HB := n0_; have BK412 := n1_; have GW412 := n2_; have GE412 := n3_; clear n0_ n1_ n2_ n3_; clear hb hbox hg; have hcz15 := cl2_ BK412.out; have hfz15 := fr2_ BK412.out) | (go_at_call 102; (with_reducible refine (impl_Mesh_unbalanced.calls k a0_0 _ _ l0_1 t413 _ ?side1 ?side2 A2.out).mono ?_); (case side1 => exact cC_ HR0_1.out HB.out); (case side2 => exact HC0_1.out); rintro e w16 ⟨rfl, hb⟩; have n0_ := Aside0.mk (blk_bel BK412.out hb); have n1_ := Aside0.mk (cBs_ HB.out hb); clear BK412; clear HB; have BK412 := n0_; have HB := n1_; clear n0_ n1_; (try clear hb); (try clear hb2); (try clear hk); (try clear hi); have hcz17 := cl2_ BK412.out; have hfz17 := fr2_ BK412.out; have p414 : 0 ≤ (t413 : Int) := of_decide_eq_true (by first | (with_reducible assumption) | assumption); have q414 : t413 < (l0_1.length : Int) := of_decide_eq_true (by first | (with_reducible assumption) | assumption); obtain ⟨ad414, e414, hx414_0, hx414_1, hx414_2⟩ := at_T36 HR0_1.out t413 p414 q414; cases e414; replace hx414_0 := bce_ HB.out hx414_0; replace hx414_1 := bce_ HB.out hx414_1; replace hx414_2 := bce_ HB.out hx414_2; replace p414 := eq_true p414; replace q414 := eq_true q414; have p415 : 0 ≤ ((ji6) : Int) := of_decide_eq_true (by first | (with_reducible assumption) | assumption); have q415 : (ji6) < (l0_1.length : Int) := of_decide_eq_true (by first | (with_reducible assumption) | assumption); obtain ⟨ad415, e415, hx415_0, hx415_1, hx415_2⟩ := at_T36 HR0_1.out (ji6) p415 q415; obtain rfl : ad414 = ad415 := (by injection e415); replace hx415_0 := bce_ HB.out hx415_0; replace hx415_1 := bce_ HB.out hx415_1; replace hx415_2 := bce_ HB.out hx415_2; replace p415 := eq_true p415; replace q415 := eq_true q415)))
       go_ret
       exact ⟨by first | rfl | (simp [errW_none, errW_some] <;> rfl) | (simp only [← hji6]; first | rfl | (simp [errW_none, errW_some] <;> rfl)) | (simp [*, errW_none, errW_some] <;> rfl), cB_ HB.out⟩
     ·
      rw [if_neg c8] at H
      exact absurd H (by simp)
    ·
     rw [if_neg c7] at H
     exact absurd H (by simp)
   ·
    rw [if_neg c5] at H
    exact absurd H (by simp)
  ·
   rw [if_neg c4] at H
   exact absurd H (by simp)
 ·
  rw [if_neg c3] at H
  have c3b0 : decide (0 ≤ t413) = false := decide_eq_false c3
  clear c3
  obtain rfl := Option.some.inj H
  go_enter Try.func90, Try.ntmps90
  go_wp2_with (first | ((with_reducible refine gate_dst (N := 1) rfl ?_); refine bxe_ 1 #[.int .i64 a0_0, .slice A0_1 l0_1.length c0_1] 26 ?_; intro gb412 hg w18 hbox hb; have n0_ := Aside0.mk (bst_ HB.out hb); have n1_ := Aside0.mk (hbox); have n2_ := Aside0.mk (gz_ hg (bsz_ HB.out)); have n3_ := Aside0.mk (gz_ hg (bsz_ HB.out)); clear HB; have HB := n0_; have BK412 := n1_; have GW412 := n2_; have GE412 := n3_; clear n0_ n1_ n2_ n3_; clear hb hbox hg; have hcz19 := cl2_ BK412.out; have hfz19 := fr2_ BK412.out) | (go_at_call 102; (with_reducible refine (impl_Mesh_unbalanced.calls k a0_0 _ _ l0_1 t413 _ ?side1 ?side2 A2.out).mono ?_); (case side1 => exact cC_ HR0_1.out HB.out); (case side2 => exact HC0_1.out); rintro e w20 ⟨rfl, hb⟩; have n0_ := Aside0.mk (blk_bel BK412.out hb); have n1_ := Aside0.mk (cBs_ HB.out hb); clear BK412; clear HB; have BK412 := n0_; have HB := n1_; clear n0_ n1_; (try clear hb); (try clear hb2); (try clear hk); (try clear hi)))
  repeat (go_quiet (first | ((with_reducible refine gate_dst (N := 1) rfl ?_); refine bxe_ 1 #[.int .i64 a0_0, .slice A0_1 l0_1.length c0_1] 26 ?_; intro gb412 hg w18 hbox hb; have n0_ := Aside0.mk (bst_ HB.out hb); have n1_ := Aside0.mk (hbox); have n2_ := Aside0.mk (gz_ hg (bsz_ HB.out)); have n3_ := Aside0.mk (gz_ hg (bsz_ HB.out)); clear HB; have HB := n0_; have BK412 := n1_; have GW412 := n2_; have GE412 := n3_; clear n0_ n1_ n2_ n3_; clear hb hbox hg; have hcz19 := cl2_ BK412.out; have hfz19 := fr2_ BK412.out) | (go_at_call 102; (with_reducible refine (impl_Mesh_unbalanced.calls k a0_0 _ _ l0_1 t413 _ ?side1 ?side2 A2.out).mono ?_); (case side1 => exact cC_ HR0_1.out HB.out); (case side2 => exact HC0_1.out); rintro e w20 ⟨rfl, hb⟩; have n0_ := Aside0.mk (blk_bel BK412.out hb); have n1_ := Aside0.mk (cBs_ HB.out hb); clear BK412; clear HB; have BK412 := n0_; have HB := n1_; clear n0_ n1_; (try clear hb); (try clear hb2); (try clear hk); (try clear hi))); try go_wp2_with (first | ((with_reducible refine gate_dst (N := 1) rfl ?_); refine bxe_ 1 #[.int .i64 a0_0, .slice A0_1 l0_1.length c0_1] 26 ?_; intro gb412 hg w18 hbox hb; have n0_ := Aside0.mk (bst_ HB.out hb); have n1_ := Aside0.mk (hbox); have n2_ := Aside0.mk (gz_ hg (bsz_ HB.out)); have n3_ := Aside0.mk (gz_ hg (bsz_ HB.out)); clear HB; have HB := n0_; have BK412 := n1_; have GW412 := n2_; have GE412 := n3_; clear n0_ n1_ n2_ n3_; clear hb hbox hg; have hcz19 := cl2_ BK412.out; have hfz19 := fr2_ BK412.out) | (go_at_call 102; (with_reducible refine (impl_Mesh_unbalanced.calls k a0_0 _ _ l0_1 t413 _ ?side1 ?side2 A2.out).mono ?_); (case side1 => exact cC_ HR0_1.out HB.out); (case side2 => exact HC0_1.out); rintro e w20 ⟨rfl, hb⟩; have n0_ := Aside0.mk (blk_bel BK412.out hb); have n1_ := Aside0.mk (cBs_ HB.out hb); clear BK412; clear HB; have BK412 := n0_; have HB := n1_; clear n0_ n1_; (try clear hb); (try clear hb2); (try clear hk); (try clear hi))))
  go_ret
  exact ⟨by first | rfl | (simp [*, errW_none, errW_some] <;> rfl), cB_ HB.out⟩



/-! ### spec_IsBalanced: function 52 -/
def spec_IsBalanced.f (k : Nat) (a0_0 : Int) (l0_1 : List (S36)) : Option (Bool) := (spec_MeshOk.f k a0_0 l0_1).bind fun t436 => (if t436 = true then ((spec_l05First.f k a0_0 l0_1).bind fun t437 => (some (decide (t437 < 0)))) else (some false))
theorem spec_IsBalanced.mono : ∀ a0 a1 k, LeO (spec_IsBalanced.f k a0 a1) (spec_IsBalanced.f (k + 1) a0 a1) := by
 intro a0 a1 k
 unfold spec_IsBalanced.f
 repeat' first
   | (with_reducible exact spec_MeshOk.mono _ _ _)
   | (with_reducible exact spec_l05First.mono _ _ _)
   | (with_reducible exact LeO.refl _)
   | (with_reducible exact LeO.none _)
   | (with_reducible refine LeO.ite ?_ ?_)
   | (with_reducible refine LeO.bind ?_ (fun _ => ?_))
   | exact spec_MeshOk.mono _ _ _
   | exact spec_l05First.mono _ _ _
   | exact LeO.none _
   | refine LeO.ite ?_ ?_
   | refine LeO.bind ?_ (fun _ => ?_)
set_option maxHeartbeats 8000000 in
set_option maxRecDepth 100000 in
theorem spec_IsBalanced.calls (k : Nat) (a0_0 : Int) (A0_1 : Option Addr) (c0_1 : Nat) (l0_1 : List (S36)) (r : Bool) (w : World) (hr0_1 : Kd.C k36 w A0_1 l0_1.length l0_1) (hc0_1 : l0_1.length ≤ c0_1) (h : spec_IsBalanced.f k a0_0 l0_1 = some r) :
  Calls Try.prog 52 #[.agg #[.int .i64 a0_0, .slice A0_1 l0_1.length c0_1]] w fun e w' => e = .returned (.bool r) ∧ Below w.heap.size w w' := by
 have hu26 := Try.underlying26
 have HR0_1 := Aside0.mk hr0_1
 have HC0_1 := Aside0.mk hc0_1
 clear hr0_1 hc0_1
 have HB := Aside0.mk (Below.refl w.heap.size w)
 have H : ((spec_MeshOk.f k a0_0 l0_1).bind fun t436 => (if t436 = true then ((spec_l05First.f k a0_0 l0_1).bind fun t437 => (some (decide (t437 < 0)))) else (some false))) = some r := h
 clear h
 replace H := Option.bind_eq_some_iff.mp H
 obtain ⟨t436, A20, H⟩ := H
 (try dsimp only at H)
 have A2 := Aside0.mk A20
 clear A20
 by_cases c3 : t436 = true
 ·
  subst c3
  have H1 := H; rw [if_pos rfl] at H1
  clear H
  have H := H1
  clear H1
  replace H := Option.bind_eq_some_iff.mp H
  obtain ⟨t437, A40, H⟩ := H
  replace H : (some (decide (t437 < 0))) = some r := H
  have A4 := Aside0.mk A40
  clear A40
  obtain rfl := Option.some.inj H
  go_enter Try.func52, Try.ntmps52
  go_wp2_with (first | ((with_reducible refine gate_dst (N := 1) rfl ?_); refine bxe_ 1 #[.int .i64 a0_0, .slice A0_1 l0_1.length c0_1] 26 ?_; intro gb435 hg w5 hbox hb; have n0_ := Aside0.mk (bst_ HB.out hb); have n1_ := Aside0.mk (hbox); have n2_ := Aside0.mk (gz_ hg (bsz_ HB.out)); have n3_ := Aside0.mk (gz_ hg (bsz_ HB.out)); clear HB; have HB := n0_; have BK435 := n1_; have GW435 := n2_; have GE435 := n3_; clear n0_ n1_ n2_ n3_; clear hb hbox hg; have hcz6 := cl2_ BK435.out; have hfz6 := fr2_ BK435.out) | ((with_reducible refine gate_callee (f := 57) rfl ?_); refine goesL_ (some 4) rfl rfl Try.func57 (by kernel_rfl) rfl #[.agg #[.int .i64 a0_0, .slice A0_1 l0_1.length c0_1]] rfl (by (try simp only [List.map_toArray, List.map_cons, List.map_nil]); first | done | rfl | (simp only [List.length_drop, List.length_take]; rfl)) ?_; (with_reducible refine (spec_MeshOk.calls k a0_0 _ _ l0_1 true _ ?side1 ?side2 A2.out).mono ?_); (case side1 => exact cC_ HR0_1.out HB.out); (case side2 => exact HC0_1.out); rintro e w7 ⟨rfl, hb⟩; refine ⟨_, rfl, ?_⟩; have n0_ := Aside0.mk (blk_bel BK435.out hb); have n1_ := Aside0.mk (cBs_ HB.out hb); clear BK435; clear HB; have BK435 := n0_; have HB := n1_; clear n0_ n1_; (try clear hb); (try clear hb2); (try clear hk); (try clear hi); have hcz8 := cl2_ BK435.out; have hfz8 := fr2_ BK435.out) | (go_at_call 66; (with_reducible refine (spec_l05First.calls k a0_0 _ _ l0_1 t437 _ ?side1 ?side2 A4.out).mono ?_); (case side1 => exact cC_ HR0_1.out HB.out); (case side2 => exact HC0_1.out); rintro e w9 ⟨rfl, hb⟩; have n0_ := Aside0.mk (blk_bel BK435.out hb); have n1_ := Aside0.mk (cBs_ HB.out hb); clear BK435; clear HB; have BK435 := n0_; have HB := n1_; clear n0_ n1_; (try clear hb); (try clear hb2); (try clear hk); (try clear hi)))
  go_ret
  exact ⟨by first | rfl | (simp [*, errW_none, errW_some] <;> rfl), cB_ HB.out⟩
 ·
  replace c3 := Bool.eq_false_iff.mpr c3
  subst c3
  have H1 : (some false) = some r := by rw [if_neg (show ¬ (false = true) by decide)] at H; exact H
  clear H
  have H := H1
  clear H1
  obtain rfl := Option.some.inj H
  go_enter Try.func52, Try.ntmps52
  go_wp2_with (first | ((with_reducible refine gate_dst (N := 1) rfl ?_); refine bxe_ 1 #[.int .i64 a0_0, .slice A0_1 l0_1.length c0_1] 26 ?_; intro gb435 hg w10 hbox hb; have n0_ := Aside0.mk (bst_ HB.out hb); have n1_ := Aside0.mk (hbox); have n2_ := Aside0.mk (gz_ hg (bsz_ HB.out)); have n3_ := Aside0.mk (gz_ hg (bsz_ HB.out)); clear HB; have HB := n0_; have BK435 := n1_; have GW435 := n2_; have GE435 := n3_; clear n0_ n1_ n2_ n3_; clear hb hbox hg; have hcz11 := cl2_ BK435.out; have hfz11 := fr2_ BK435.out) | ((with_reducible refine gate_callee (f := 57) rfl ?_); refine goesL_ (some 4) rfl rfl Try.func57 (by kernel_rfl) rfl #[.agg #[.int .i64 a0_0, .slice A0_1 l0_1.length c0_1]] rfl (by (try simp only [List.map_toArray, List.map_cons, List.map_nil]); first | done | rfl | (simp only [List.length_drop, List.length_take]; rfl)) ?_; (with_reducible refine (spec_MeshOk.calls k a0_0 _ _ l0_1 false _ ?side1 ?side2 A2.out).mono ?_); (case side1 => exact cC_ HR0_1.out HB.out); (case side2 => exact HC0_1.out); rintro e w12 ⟨rfl, hb⟩; refine ⟨_, rfl, ?_⟩; have n0_ := Aside0.mk (blk_bel BK435.out hb); have n1_ := Aside0.mk (cBs_ HB.out hb); clear BK435; clear HB; have BK435 := n0_; have HB := n1_; clear n0_ n1_; (try clear hb); (try clear hb2); (try clear hk); (try clear hi)))
  go_ret
  exact ⟨by first | rfl | (simp [*, errW_none, errW_some] <;> rfl), cB_ HB.out⟩

/-! ### spec_l07Sum: function 54 -/
def spec_l07Sum.l0 : Nat → List Int → Int → Int → Option (Int)
 | 0, _, _, _ => none
 | k + 1, x0, x3, x4 => if x4 < (x0.length : Int) then (if 0 ≤ x4 then (spec_l07Sum.l0 k x0 (wrap64 (x3 + (rd x0 x4))) (wrap64 (x4 + 1))) else (none)) else (some x3)
def spec_l07Sum.f (k : Nat) (l0 : List Int) : Option (Int) := spec_l07Sum.l0 k l0 0 0
theorem spec_l07Sum.mono_l : ∀ k, (∀ y0 y1 y2, LeO (spec_l07Sum.l0 k y0 y1 y2) (spec_l07Sum.l0 (k + 1) y0 y1 y2))
 | 0 => fun _ _ _ r h => by simp [spec_l07Sum.l0] at h
 | k + 1 => by
  have ih0 := spec_l07Sum.mono_l k
  ·
   intro y0 y1 y2
   unfold spec_l07Sum.l0
   repeat' first
   | (with_reducible exact ih0 _ _ _)
   | (with_reducible exact LeO.refl _)
   | (with_reducible exact LeO.none _)
   | (with_reducible refine LeO.ite ?_ ?_)
   | (with_reducible refine LeO.bind ?_ (fun _ => ?_))
   | exact ih0 _ _ _
   | exact LeO.none _
   | refine LeO.ite ?_ ?_
   | refine LeO.bind ?_ (fun _ => ?_)
theorem spec_l07Sum.mono : ∀ a0 k, LeO (spec_l07Sum.f k a0) (spec_l07Sum.f (k + 1) a0) := by
 intro a0 k
 have ih0 := spec_l07Sum.mono_l k
 unfold spec_l07Sum.f
 repeat' first
   | (with_reducible exact ih0 _ _ _)
   | (with_reducible exact LeO.refl _)
   | (with_reducible exact LeO.none _)
   | (with_reducible refine LeO.ite ?_ ?_)
   | (with_reducible refine LeO.bind ?_ (fun _ => ?_))
   | exact ih0 _ _ _
   | exact LeO.none _
   | refine LeO.ite ?_ ?_
   | refine LeO.bind ?_ (fun _ => ?_)
set_option maxHeartbeats 8000000 in
set_option maxRecDepth 100000 in
theorem spec_l07Sum.calls (k : Nat) (A0 : Option Addr) (c0 : Nat) (l0 : List Int) (r : Int) (w : World) (hr0 : Kd.C (Kd.int .i64) w A0 l0.length l0) (hc0 : l0.length ≤ c0) (h : spec_l07Sum.f k l0 = some r) :
  Calls Try.prog 54 #[.slice A0 l0.length c0] w fun e w' => e = .returned (.int .i64 r) ∧ Drawn0 w w' := by
 have HR0 := Aside0.mk hr0
 have HC0 := Aside0.mk hc0
 clear hr0 hc0
 have H : (spec_l07Sum.l0 k l0 0 0) = some r := h
 clear h
 have H' := Aside0.mk H
 clear H
 go_enter Try.func54, Try.ntmps54
 go_wp2
 go_loopg [3, 4] k (fun kq v3 v4 w' => ∃ (x3_1 : Int) (x4_1 : Int), v3 = .int .i64 x3_1 ∧ v4 = .int .i64 x4_1 ∧ Aside0 (spec_l07Sum.l0 kq l0 x3_1 x4_1 = some r) ∧ Aside0 (kq ≤ k) ∧ Drawn0 w w')
 case atStart => exact ⟨(0), (0), (by first | rfl | (simp; done) | (simp [*]; done)), (by first | rfl | (simp; done) | (simp [*]; done)), H', ⟨Nat.le_refl _⟩, by repeat (first | exact Drawn0.refl _ | apply Drawn0.step)⟩
 case round =>
  clear H'
  obtain ⟨x3_1, x4_1, rfl, rfl, HA, HK1, ⟨m1, rfl⟩⟩ := hrel
  cases gk with
  | zero => exact absurd HA.out (by simp [spec_l07Sum.l0])
  | succ k1 =>
   have H := HA.out
   clear HA
   simp only [spec_l07Sum.l0] at H
   by_cases c2 : x4_1 < (l0.length : Int)
   ·
    rw [if_pos c2] at H
    have c2b0 : decide (x4_1 < (l0.length : Int)) = true := decide_eq_true c2
    clear c2
    by_cases c3 : 0 ≤ x4_1
    ·
     rw [if_pos c3] at H
     have c3b0 : decide (0 ≤ x4_1) = true := decide_eq_true c3
     clear c3
     have H' := Aside0.mk H
     clear H
     have p438 : 0 ≤ (x4_1 : Int) := of_decide_eq_true (by first | (with_reducible assumption) | assumption)
     have q438 : x4_1 < (l0.length : Int) := of_decide_eq_true (by first | (with_reducible assumption) | assumption)
     obtain ⟨ad438, e438, hx438_0⟩ := Kd.at_int HR0.out x4_1 p438 q438
     cases e438
     replace p438 := eq_true p438
     replace q438 := eq_true q438
     go_wp2
     go_roundg k1
     case measure => have := HK1.out; omega
     case rel => exact ⟨(wrap64 (x3_1 + (rd l0 x4_1))), (wrap64 (x4_1 + 1)), (by first | rfl | (simp; done) | (simp [*]; done)), (by first | rfl | (simp; done) | (simp [*]; done)), H', ⟨by have := HK1.out; omega⟩, by repeat (first | exact Drawn0.refl _ | apply Drawn0.step)⟩
    ·
     rw [if_neg c3] at H
     exact absurd H (by simp)
   ·
    rw [if_neg c2] at H
    have c2b0 : decide (x4_1 < (l0.length : Int)) = false := decide_eq_false c2
    clear c2
    obtain rfl := Option.some.inj H
    go_wp2
    go_ret
    exact ⟨by first | rfl | (simp; done) | (simp [*]; done), by repeat (first | exact Drawn0.refl _ | apply Drawn0.step)⟩

end Go.Proofs.Ytbkkehjhfgocfaa.PFnTransferred
