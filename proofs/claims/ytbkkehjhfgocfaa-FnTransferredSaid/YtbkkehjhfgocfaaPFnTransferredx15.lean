/- Written by this repo's own copy of a print: plain functions beneath a law, and the proof that the program computes them; no condition. -/
import Derived.Test.YtbkkehjhfgocfaaPFnTransferredx0
import Derived.Test.YtbkkehjhfgocfaaPFnTransferredx14
namespace Go.Proofs.Ytbkkehjhfgocfaa.PFnTransferred
open Go.RowKit Go.Proofs.YtbkkehjhfgocfaaW.PrintWords Go.Proofs.YtbkkehjhfgocfaaW.PrintLast Go.Proofs.YtbkkehjhfgocfaaW.PrintMore
attribute [local go_sem] max2_int min2_int max_two min_two max_three min_three max_four min_four   -- for this text's walks alone
set_option linter.unusedVariables false
set_option linter.unusedSimpArgs false

/-! ### spec_l06May: function 58 -/
def spec_l06May.f (a0_0 : Int) (l0_1 : List (S36)) (a1 : Int) : Option (Bool) := if 0 ≤ a1 then (if a1 < (l0_1.length : Int) then (if 0 ≤ (wrap64 (a1 + 1)) then (if (wrap64 (a1 + 1)) < (l0_1.length : Int) then ((spec_IsSibling.f ((rd_T36 l0_1 a1).f0) ((rd_T36 l0_1 a1).f1) ((rd_T36 l0_1 a1).f2) ((rd_T36 l0_1 (wrap64 (a1 + 1))).f0) ((rd_T36 l0_1 (wrap64 (a1 + 1))).f1) ((rd_T36 l0_1 (wrap64 (a1 + 1))).f2)).bind fun t513 => (if t513 = true then (if a1 = 0 then (if (wrap64 (a1 + 2)) ≥ (l0_1.length : Int) then (some true) else (if 0 ≤ (wrap64 (a1 + 2)) then (if (wrap64 (a1 + 2)) < (l0_1.length : Int) then (some (decide (((rd_T36 l0_1 (wrap64 (a1 + 2))).f1) ≤ ((rd_T36 l0_1 a1).f1)))) else (none)) else (none))) else (if 0 ≤ (wrap64 (a1 - 1)) then (if (wrap64 (a1 - 1)) < (l0_1.length : Int) then (if ((rd_T36 l0_1 (wrap64 (a1 - 1))).f1) ≤ ((rd_T36 l0_1 a1).f1) then (if (wrap64 (a1 + 2)) ≥ (l0_1.length : Int) then (some true) else (if 0 ≤ (wrap64 (a1 + 2)) then (if (wrap64 (a1 + 2)) < (l0_1.length : Int) then (some (decide (((rd_T36 l0_1 (wrap64 (a1 + 2))).f1) ≤ ((rd_T36 l0_1 a1).f1)))) else (none)) else (none))) else (some false)) else (none)) else (none))) else (some false))) else (none)) else (none)) else (none)) else (none)
def spec_l06May.T2 : Bool × List (List Nat × List Nat) := (true, [([], []), ([0], [0]), ([], []), ([1, 2], [1, 2]), ([3], [3]), ([], []), ([5], [5]), ([], []), ([7], [7]), ([6, 8], [6, 8]), ([9], [9]), ([4, 10], [4, 10]), ([11], [11])])
def spec_l06May.B2 : List Nat := [0, 1, 0, 7, 15, 0, 32, 0, 128, 480, 992, 2047, 4095]
theorem spec_l06May.tab2 : rtab .any (opsOf Try.f58 2) = spec_l06May.T2 := by kernel_rfl
theorem spec_l06May.bits2 : waitsOk spec_l06May.T2.2 spec_l06May.B2 = true := by kernel_rfl
set_option maxHeartbeats 8000000 in
set_option maxRecDepth 100000 in
theorem spec_l06May.calls (a0_0 : Int) (A0_1 : Option Addr) (c0_1 : Nat) (l0_1 : List (S36)) (a1 : Int) (r : Bool) (w : World) (hr0_1 : Kd.C k36 w A0_1 l0_1.length l0_1) (hc0_1 : l0_1.length ≤ c0_1) (h : spec_l06May.f a0_0 l0_1 a1 = some r) :
  Calls Try.prog 58 #[.agg #[.int .i64 a0_0, .slice A0_1 l0_1.length c0_1], .int .i64 a1] w fun e w' => e = .returned (.bool r) ∧ Below w.heap.size w w' := by
 have hu26 := Try.underlying26
 have hu36 := Try.underlying36
 have HR0_1 := Aside0.mk hr0_1
 have HC0_1 := Aside0.mk hc0_1
 clear hr0_1 hc0_1
 have HB := Aside0.mk (Below.refl w.heap.size w)
 have H : (if 0 ≤ a1 then (if a1 < (l0_1.length : Int) then (if 0 ≤ (wrap64 (a1 + 1)) then (if (wrap64 (a1 + 1)) < (l0_1.length : Int) then ((spec_IsSibling.f ((rd_T36 l0_1 a1).f0) ((rd_T36 l0_1 a1).f1) ((rd_T36 l0_1 a1).f2) ((rd_T36 l0_1 (wrap64 (a1 + 1))).f0) ((rd_T36 l0_1 (wrap64 (a1 + 1))).f1) ((rd_T36 l0_1 (wrap64 (a1 + 1))).f2)).bind fun t513 => (if t513 = true then (if a1 = 0 then (if (wrap64 (a1 + 2)) ≥ (l0_1.length : Int) then (some true) else (if 0 ≤ (wrap64 (a1 + 2)) then (if (wrap64 (a1 + 2)) < (l0_1.length : Int) then (some (decide (((rd_T36 l0_1 (wrap64 (a1 + 2))).f1) ≤ ((rd_T36 l0_1 a1).f1)))) else (none)) else (none))) else (if 0 ≤ (wrap64 (a1 - 1)) then (if (wrap64 (a1 - 1)) < (l0_1.length : Int) then (if ((rd_T36 l0_1 (wrap64 (a1 - 1))).f1) ≤ ((rd_T36 l0_1 a1).f1) then (if (wrap64 (a1 + 2)) ≥ (l0_1.length : Int) then (some true) else (if 0 ≤ (wrap64 (a1 + 2)) then (if (wrap64 (a1 + 2)) < (l0_1.length : Int) then (some (decide (((rd_T36 l0_1 (wrap64 (a1 + 2))).f1) ≤ ((rd_T36 l0_1 a1).f1)))) else (none)) else (none))) else (some false)) else (none)) else (none))) else (some false))) else (none)) else (none)) else (none)) else (none)) = some r := h
 clear h
 by_cases c3 : 0 ≤ a1
 ·
  rw [if_pos c3] at H
  have c3b0 : decide (0 ≤ a1) = true := decide_eq_true c3
  clear c3
  by_cases c4 : a1 < (l0_1.length : Int)
  ·
   rw [if_pos c4] at H
   have c4b0 : decide (a1 < (l0_1.length : Int)) = true := decide_eq_true c4
   clear c4
   obtain ⟨ji5, hji5⟩ : ∃ j_ : Int, (wrap64 (a1 + 1)) = j_ := ⟨_, rfl⟩
   replace H : (if 0 ≤ (ji5) then (if (ji5) < (l0_1.length : Int) then ((spec_IsSibling.f ((rd_T36 l0_1 a1).f0) ((rd_T36 l0_1 a1).f1) ((rd_T36 l0_1 a1).f2) ((rd_T36 l0_1 (ji5)).f0) ((rd_T36 l0_1 (ji5)).f1) ((rd_T36 l0_1 (ji5)).f2)).bind fun t513 => (if t513 = true then (if a1 = 0 then (if (wrap64 (a1 + 2)) ≥ (l0_1.length : Int) then (some true) else (if 0 ≤ (wrap64 (a1 + 2)) then (if (wrap64 (a1 + 2)) < (l0_1.length : Int) then (some (decide (((rd_T36 l0_1 (wrap64 (a1 + 2))).f1) ≤ ((rd_T36 l0_1 a1).f1)))) else (none)) else (none))) else (if 0 ≤ (wrap64 (a1 - 1)) then (if (wrap64 (a1 - 1)) < (l0_1.length : Int) then (if ((rd_T36 l0_1 (wrap64 (a1 - 1))).f1) ≤ ((rd_T36 l0_1 a1).f1) then (if (wrap64 (a1 + 2)) ≥ (l0_1.length : Int) then (some true) else (if 0 ≤ (wrap64 (a1 + 2)) then (if (wrap64 (a1 + 2)) < (l0_1.length : Int) then (some (decide (((rd_T36 l0_1 (wrap64 (a1 + 2))).f1) ≤ ((rd_T36 l0_1 a1).f1)))) else (none)) else (none))) else (some false)) else (none)) else (none))) else (some false))) else (none)) else (none)) = some r := by first | (rw [hji5] at H; exact H) | (simp only [hji5] at H ⊢; exact H)
   have hji5w : (IntKind.i64.wrap (a1 + 1)) = ji5 := (i64_w _).trans hji5
   by_cases c6 : 0 ≤ (ji5)
   ·
    rw [if_pos c6] at H
    have c6b0 : decide (0 ≤ (ji5)) = true := decide_eq_true c6
    clear c6
    by_cases c7 : (ji5) < (l0_1.length : Int)
    ·
     rw [if_pos c7] at H
     have c7b0 : decide ((ji5) < (l0_1.length : Int)) = true := decide_eq_true c7
     clear c7
     replace H := Option.bind_eq_some_iff.mp H
     obtain ⟨t513, A80, H⟩ := H
     (try dsimp only at H)
     have A8 := Aside0.mk A80
     clear A80
     by_cases c9 : t513 = true
     ·
      subst c9
      have H1 := H; rw [if_pos rfl] at H1
      clear H
      have H := H1
      clear H1
      by_cases c10 : a1 = 0
      ·
       rw [if_pos c10] at H
       have c10b0 : (a1 == 0) = true := beq_iff_eq.mpr c10
       have c10b1 : (a1 != 0) = false := bne_eq_false_iff_eq.mpr c10
       clear c10
       by_cases c11 : (wrap64 (a1 + 2)) ≥ (l0_1.length : Int)
       ·
        rw [if_pos c11] at H
        have c11b0 : decide ((l0_1.length : Int) ≤ (wrap64 (a1 + 2))) = true := decide_eq_true c11
        clear c11
        obtain rfl := Option.some.inj H
        go_enter Try.func58, Try.ntmps58
        try go_wp2_with (first | ((with_reducible refine gate_dst (N := 2) rfl ?_); (try (refine gate_guard (by rfl) ?_; dsimp only)); refine bxe_ 2 #[.int .i64 a0_0, .slice A0_1 l0_1.length c0_1] 26 ?_; intro gb509 hg w12 hbox hb; have n0_ := Aside0.mk (bst_ HB.out hb); have n1_ := Aside0.mk (hbox); have n2_ := Aside0.mk (gz_ hg (bsz_ HB.out)); have n3_ := Aside0.mk (gz_ hg (bsz_ HB.out)); clear HB; have HB := n0_; have BK509 := n1_; have GW509 := n2_; have GE509 := n3_; clear n0_ n1_ n2_ n3_; clear hb hbox hg; have hcz13 := cl2_ BK509.out; have hfz13 := fr2_ BK509.out; have p510 : 0 ≤ (a1 : Int) := of_decide_eq_true (by first | (with_reducible assumption) | assumption); have q510 : a1 < (l0_1.length : Int) := of_decide_eq_true (by first | (with_reducible assumption) | assumption); obtain ⟨ad510, e510, hx510_0, hx510_1, hx510_2⟩ := at_T36 HR0_1.out a1 p510 q510; cases e510; replace hx510_0 := bce_ HB.out hx510_0; replace hx510_1 := bce_ HB.out hx510_1; replace hx510_2 := bce_ HB.out hx510_2; replace p510 := eq_true p510; replace q510 := eq_true q510))
        have n0_ := Aside0.mk (blk_drew BK509.out)
        have n1_ := Aside0.mk (below_drew1 HB.out)
        clear BK509
        clear HB
        have BK509 := n0_
        have HB := n1_
        clear n0_ n1_
        have p511 : 0 ≤ (a1 : Int) := of_decide_eq_true (by first | (with_reducible assumption) | assumption)
        have q511 : a1 < (l0_1.length : Int) := of_decide_eq_true (by first | (with_reducible assumption) | assumption)
        obtain ⟨ad511, e511, hx511_0, hx511_1, hx511_2⟩ := at_T36 HR0_1.out a1 p511 q511
        have hw511_2 := hx511_2
        have hw511_1 := hx511_1
        have hw511_0 := hx511_0
        obtain rfl : ad510 = ad511 := (by injection e511)
        replace hx511_0 := bce_ HB.out hx511_0
        replace hx511_1 := bce_ HB.out hx511_1
        replace hx511_2 := bce_ HB.out hx511_2
        replace p511 := eq_true p511
        replace q511 := eq_true q511
        have p512 : 0 ≤ ((ji5) : Int) := of_decide_eq_true (by first | (with_reducible assumption) | assumption)
        have q512 : (ji5) < (l0_1.length : Int) := of_decide_eq_true (by first | (with_reducible assumption) | assumption)
        obtain ⟨ad512, e512, hx512_0, hx512_1, hx512_2⟩ := at_T36 HR0_1.out (ji5) p512 q512
        have hw512_2 := hx512_2
        have hw512_1 := hx512_1
        have hw512_0 := hx512_0
        obtain rfl : ad510 = ad512 := (by injection e512)
        replace hx512_0 := bce_ HB.out hx512_0
        replace hx512_1 := bce_ HB.out hx512_1
        replace hx512_2 := bce_ HB.out hx512_2
        replace p512 := eq_true p512
        replace q512 := eq_true q512
        refine start_ (n := 13) (S := fun w' => w'.cell? ⟨gb509, 0, none⟩ = some (.int .i64 a0_0) ∧ w'.cell? ⟨gb509, 1, none⟩ = some (.slice (some ad510) l0_1.length c0_1) ∧ w'.cell? (ad510.add ((a1).toNat * 3)) = some (.int .i64 ((rd_T36 l0_1 a1).f0)) ∧ w'.cell? ⟨(ad510.add ((a1).toNat * 3)).block, (ad510.add ((a1).toNat * 3)).off + 1, none⟩ = some (.int .i64 ((rd_T36 l0_1 a1).f1)) ∧ w'.cell? ⟨(ad510.add ((a1).toNat * 3)).block, (ad510.add ((a1).toNat * 3)).off + 2, none⟩ = some (.int .i64 ((rd_T36 l0_1 a1).f2)) ∧ w'.cell? (ad510.add (((ji5)).toNat * 3)) = some (.int .i64 ((rd_T36 l0_1 (ji5)).f0)) ∧ w'.cell? ⟨(ad510.add (((ji5)).toNat * 3)).block, (ad510.add (((ji5)).toNat * 3)).off + 1, none⟩ = some (.int .i64 ((rd_T36 l0_1 (ji5)).f1)) ∧ w'.cell? ⟨(ad510.add (((ji5)).toNat * 3)).block, (ad510.add (((ji5)).toNat * 3)).off + 2, none⟩ = some (.int .i64 ((rd_T36 l0_1 (ji5)).f2))) (ds := []) #[N_,N_,N_,N_,N_,N_,N_,N_,N_,N_,N_,N_,N_] (by kernel_rfl) rfl rfl ⟨(blk_cell BK509.out 0).trans rfl, (blk_cell BK509.out 1).trans rfl, (bce_ HB.out hw511_0), (bce_ HB.out hw511_1), (bce_ HB.out hw511_2), (bce_ HB.out hw512_0), (bce_ HB.out hw512_1), (bce_ HB.out hw512_2)⟩ (fun hHeld => ?_); refine with_tabW spec_l06May.tab2 spec_l06May.bits2 (fun HT_ HW_ => ?_)
        generalize w12.drew = w14 at BK509 HB hx511_0 hx511_1 hx511_2 hx512_0 hx512_1 hx512_2 hHeld ⊢
        refine pu_ HT_.out 0 12 #[Y_,N_,N_,N_,N_,N_,N_,N_,N_,N_,N_,N_,N_] ?_
        refine pu_ HT_.out 2 14 #[Y_,N_,Y_,N_,N_,N_,N_,N_,N_,N_,N_,N_,N_] ?_
        refine pu_ HT_.out 5 17 #[Y_,N_,Y_,N_,N_,Y_,N_,N_,N_,N_,N_,N_,N_] ?_
        refine pu_ HT_.out 7 19 #[Y_,N_,Y_,N_,N_,Y_,N_,Y_,N_,N_,N_,N_,N_] ?_
        refine pu_ HT_.out 8 20 #[Y_,N_,Y_,N_,N_,Y_,N_,Y_,Y_,N_,N_,N_,N_] ?_
        refine tk_ HT_.out HW_.out hHeld 1 13 #[Y_,Y_,Y_,N_,N_,Y_,N_,Y_,Y_,N_,N_,N_,N_] ?_
        refine pu_ HT_.out 3 15 #[Y_,Y_,Y_,Y_,N_,Y_,N_,Y_,Y_,N_,N_,N_,N_] ?_
        refine tk_ HT_.out HW_.out hHeld 4 16 #[Y_,Y_,Y_,Y_,Y_,Y_,N_,Y_,Y_,N_,N_,N_,N_] ?_
        refine tk_ HT_.out HW_.out hHeld 6 18 #[Y_,Y_,Y_,Y_,Y_,Y_,Y_,Y_,Y_,N_,N_,N_,N_] ?_
        refine pu_ HT_.out 9 21 #[Y_,Y_,Y_,Y_,Y_,Y_,Y_,Y_,Y_,Y_,N_,N_,N_] ?_
        refine tk_ HT_.out HW_.out hHeld 10 22 #[Y_,Y_,Y_,Y_,Y_,Y_,Y_,Y_,Y_,Y_,Y_,N_,N_] ?_
        refine one_ (i := 11) (N := some 23) #[Y_,Y_,Y_,Y_,Y_,Y_,Y_,Y_,Y_,Y_,Y_,Y_,N_] rfl rfl (one_of HT_.out (by kernel_rfl)) (by decide) (fun K hK => ?_)
        refine goes_ Try.func96 (by kernel_rfl) rfl #[.agg #[.int .i64 ((rd_T36 l0_1 a1).f0), .int .i64 ((rd_T36 l0_1 a1).f1), .int .i64 ((rd_T36 l0_1 a1).f2)], .agg #[.int .i64 ((rd_T36 l0_1 (ji5)).f0), .int .i64 ((rd_T36 l0_1 (ji5)).f1), .int .i64 ((rd_T36 l0_1 (ji5)).f2)]] (by rfl) rfl rfl (by (try simp only [List.map_toArray, List.map_cons, List.map_nil]); first | done | (simp only [hji5]; rfl) | rfl | (simp only [List.length_drop, List.length_take]; rfl)) ?_
        with_reducible refine (spec_IsSibling.calls ((rd_T36 l0_1 a1).f0) ((rd_T36 l0_1 a1).f1) ((rd_T36 l0_1 a1).f2) ((rd_T36 l0_1 (ji5)).f0) ((rd_T36 l0_1 (ji5)).f1) ((rd_T36 l0_1 (ji5)).f2) true _ A8.out).mono ?_
        rintro e w15 ⟨rfl, hb⟩
        refine ⟨_, rfl, ?_⟩
        have n0_ := Aside0.mk (blk_bel BK509.out hb)
        have n1_ := Aside0.mk (cBs_ HB.out hb)
        clear BK509
        clear HB
        have BK509 := n0_
        have HB := n1_
        clear n0_ n1_
        (try clear hb)
        (try clear hb2)
        (try clear hk)
        (try clear hi)
        refine hK.out _ _ ⟨(blk_cell BK509.out 0).trans rfl, (blk_cell BK509.out 1).trans rfl, (bce_ HB.out hw511_0), (bce_ HB.out hw511_1), (bce_ HB.out hw511_2), (bce_ HB.out hw512_0), (bce_ HB.out hw512_1), (bce_ HB.out hw512_2)⟩ (fun hHeld => ?_)
        clear hK K
        refine norm_ (a' := ?_) ?_ ?_
        rotate_left
        ·
         show Act.put _ (some 23) _ = _
         simp only [Act.put, q1_, q2_, q3_, i64_w, i32_w]
         rfl
        refine pu_ HT_.out 12 24 #[Y_,Y_,Y_,Y_,Y_,Y_,Y_,Y_,Y_,Y_,Y_,Y_,Y_] ?_
        refine done_ (done_of HT_.out (by kernel_rfl)) ?_
        have hcz16 := cl2_ BK509.out
        have hfz16 := fr2_ BK509.out
        try go_wp2
        go_ret
        exact ⟨by first | rfl | (simp [errW_none, errW_some] <;> rfl) | (simp only [← hji5]; first | rfl | (simp [errW_none, errW_some] <;> rfl)) | (simp [*, errW_none, errW_some] <;> rfl), cB_ HB.out⟩
       ·
        rw [if_neg c11] at H
        have c11b0 : decide ((l0_1.length : Int) ≤ (wrap64 (a1 + 2))) = false := decide_eq_false c11
        clear c11
        obtain ⟨ji17, hji17⟩ : ∃ j_ : Int, (wrap64 (a1 + 2)) = j_ := ⟨_, rfl⟩
        replace H : (if 0 ≤ (ji17) then (if (ji17) < (l0_1.length : Int) then (some (decide (((rd_T36 l0_1 (ji17)).f1) ≤ ((rd_T36 l0_1 a1).f1)))) else (none)) else (none)) = some r := by first | (rw [hji17] at H; exact H) | (simp only [hji17] at H ⊢; exact H)
        (try rw [hji17] at c11b0)
        (try rw [hji17] at A8)
        have hji17w : (IntKind.i64.wrap (a1 + 2)) = ji17 := (i64_w _).trans hji17
        by_cases c18 : 0 ≤ (ji17)
        ·
         rw [if_pos c18] at H
         have c18b0 : decide (0 ≤ (ji17)) = true := decide_eq_true c18
         clear c18
         by_cases c19 : (ji17) < (l0_1.length : Int)
         ·
          rw [if_pos c19] at H
          have c19b0 : decide ((ji17) < (l0_1.length : Int)) = true := decide_eq_true c19
          clear c19
          obtain rfl := Option.some.inj H
          go_enter Try.func58, Try.ntmps58
          try go_wp2_with (first | ((with_reducible refine gate_dst (N := 2) rfl ?_); (try (refine gate_guard (by rfl) ?_; dsimp only)); refine bxe_ 2 #[.int .i64 a0_0, .slice A0_1 l0_1.length c0_1] 26 ?_; intro gb509 hg w20 hbox hb; have n0_ := Aside0.mk (bst_ HB.out hb); have n1_ := Aside0.mk (hbox); have n2_ := Aside0.mk (gz_ hg (bsz_ HB.out)); have n3_ := Aside0.mk (gz_ hg (bsz_ HB.out)); clear HB; have HB := n0_; have BK509 := n1_; have GW509 := n2_; have GE509 := n3_; clear n0_ n1_ n2_ n3_; clear hb hbox hg; have hcz21 := cl2_ BK509.out; have hfz21 := fr2_ BK509.out; have p510 : 0 ≤ (a1 : Int) := of_decide_eq_true (by first | (with_reducible assumption) | assumption); have q510 : a1 < (l0_1.length : Int) := of_decide_eq_true (by first | (with_reducible assumption) | assumption); obtain ⟨ad510, e510, hx510_0, hx510_1, hx510_2⟩ := at_T36 HR0_1.out a1 p510 q510; cases e510; replace hx510_0 := bce_ HB.out hx510_0; replace hx510_1 := bce_ HB.out hx510_1; replace hx510_2 := bce_ HB.out hx510_2; replace p510 := eq_true p510; replace q510 := eq_true q510))
          have n0_ := Aside0.mk (blk_drew BK509.out)
          have n1_ := Aside0.mk (below_drew1 HB.out)
          clear BK509
          clear HB
          have BK509 := n0_
          have HB := n1_
          clear n0_ n1_
          have p511 : 0 ≤ (a1 : Int) := of_decide_eq_true (by first | (with_reducible assumption) | assumption)
          have q511 : a1 < (l0_1.length : Int) := of_decide_eq_true (by first | (with_reducible assumption) | assumption)
          obtain ⟨ad511, e511, hx511_0, hx511_1, hx511_2⟩ := at_T36 HR0_1.out a1 p511 q511
          have hw511_2 := hx511_2
          have hw511_1 := hx511_1
          have hw511_0 := hx511_0
          obtain rfl : ad510 = ad511 := (by injection e511)
          replace hx511_0 := bce_ HB.out hx511_0
          replace hx511_1 := bce_ HB.out hx511_1
          replace hx511_2 := bce_ HB.out hx511_2
          replace p511 := eq_true p511
          replace q511 := eq_true q511
          have p512 : 0 ≤ ((ji5) : Int) := of_decide_eq_true (by first | (with_reducible assumption) | assumption)
          have q512 : (ji5) < (l0_1.length : Int) := of_decide_eq_true (by first | (with_reducible assumption) | assumption)
          obtain ⟨ad512, e512, hx512_0, hx512_1, hx512_2⟩ := at_T36 HR0_1.out (ji5) p512 q512
          have hw512_2 := hx512_2
          have hw512_1 := hx512_1
          have hw512_0 := hx512_0
          obtain rfl : ad510 = ad512 := (by injection e512)
          replace hx512_0 := bce_ HB.out hx512_0
          replace hx512_1 := bce_ HB.out hx512_1
          replace hx512_2 := bce_ HB.out hx512_2
          replace p512 := eq_true p512
          replace q512 := eq_true q512
          refine start_ (n := 13) (S := fun w' => w'.cell? ⟨gb509, 0, none⟩ = some (.int .i64 a0_0) ∧ w'.cell? ⟨gb509, 1, none⟩ = some (.slice (some ad510) l0_1.length c0_1) ∧ w'.cell? (ad510.add ((a1).toNat * 3)) = some (.int .i64 ((rd_T36 l0_1 a1).f0)) ∧ w'.cell? ⟨(ad510.add ((a1).toNat * 3)).block, (ad510.add ((a1).toNat * 3)).off + 1, none⟩ = some (.int .i64 ((rd_T36 l0_1 a1).f1)) ∧ w'.cell? ⟨(ad510.add ((a1).toNat * 3)).block, (ad510.add ((a1).toNat * 3)).off + 2, none⟩ = some (.int .i64 ((rd_T36 l0_1 a1).f2)) ∧ w'.cell? (ad510.add (((ji5)).toNat * 3)) = some (.int .i64 ((rd_T36 l0_1 (ji5)).f0)) ∧ w'.cell? ⟨(ad510.add (((ji5)).toNat * 3)).block, (ad510.add (((ji5)).toNat * 3)).off + 1, none⟩ = some (.int .i64 ((rd_T36 l0_1 (ji5)).f1)) ∧ w'.cell? ⟨(ad510.add (((ji5)).toNat * 3)).block, (ad510.add (((ji5)).toNat * 3)).off + 2, none⟩ = some (.int .i64 ((rd_T36 l0_1 (ji5)).f2))) (ds := []) #[N_,N_,N_,N_,N_,N_,N_,N_,N_,N_,N_,N_,N_] (by kernel_rfl) rfl rfl ⟨(blk_cell BK509.out 0).trans rfl, (blk_cell BK509.out 1).trans rfl, (bce_ HB.out hw511_0), (bce_ HB.out hw511_1), (bce_ HB.out hw511_2), (bce_ HB.out hw512_0), (bce_ HB.out hw512_1), (bce_ HB.out hw512_2)⟩ (fun hHeld => ?_); refine with_tabW spec_l06May.tab2 spec_l06May.bits2 (fun HT_ HW_ => ?_)
          generalize w20.drew = w22 at BK509 HB hx511_0 hx511_1 hx511_2 hx512_0 hx512_1 hx512_2 hHeld ⊢
          refine pu_ HT_.out 0 12 #[Y_,N_,N_,N_,N_,N_,N_,N_,N_,N_,N_,N_,N_] ?_
          refine pu_ HT_.out 2 14 #[Y_,N_,Y_,N_,N_,N_,N_,N_,N_,N_,N_,N_,N_] ?_
          refine pu_ HT_.out 5 17 #[Y_,N_,Y_,N_,N_,Y_,N_,N_,N_,N_,N_,N_,N_] ?_
          refine pu_ HT_.out 7 19 #[Y_,N_,Y_,N_,N_,Y_,N_,Y_,N_,N_,N_,N_,N_] ?_
          refine pu_ HT_.out 8 20 #[Y_,N_,Y_,N_,N_,Y_,N_,Y_,Y_,N_,N_,N_,N_] ?_
          refine tk_ HT_.out HW_.out hHeld 1 13 #[Y_,Y_,Y_,N_,N_,Y_,N_,Y_,Y_,N_,N_,N_,N_] ?_
          refine pu_ HT_.out 3 15 #[Y_,Y_,Y_,Y_,N_,Y_,N_,Y_,Y_,N_,N_,N_,N_] ?_
          refine tk_ HT_.out HW_.out hHeld 4 16 #[Y_,Y_,Y_,Y_,Y_,Y_,N_,Y_,Y_,N_,N_,N_,N_] ?_
          refine tk_ HT_.out HW_.out hHeld 6 18 #[Y_,Y_,Y_,Y_,Y_,Y_,Y_,Y_,Y_,N_,N_,N_,N_] ?_
          refine pu_ HT_.out 9 21 #[Y_,Y_,Y_,Y_,Y_,Y_,Y_,Y_,Y_,Y_,N_,N_,N_] ?_
          refine tk_ HT_.out HW_.out hHeld 10 22 #[Y_,Y_,Y_,Y_,Y_,Y_,Y_,Y_,Y_,Y_,Y_,N_,N_] ?_
          refine one_ (i := 11) (N := some 23) #[Y_,Y_,Y_,Y_,Y_,Y_,Y_,Y_,Y_,Y_,Y_,Y_,N_] rfl rfl (one_of HT_.out (by kernel_rfl)) (by decide) (fun K hK => ?_)
          refine goes_ Try.func96 (by kernel_rfl) rfl #[.agg #[.int .i64 ((rd_T36 l0_1 a1).f0), .int .i64 ((rd_T36 l0_1 a1).f1), .int .i64 ((rd_T36 l0_1 a1).f2)], .agg #[.int .i64 ((rd_T36 l0_1 (ji5)).f0), .int .i64 ((rd_T36 l0_1 (ji5)).f1), .int .i64 ((rd_T36 l0_1 (ji5)).f2)]] (by rfl) rfl rfl (by (try simp only [List.map_toArray, List.map_cons, List.map_nil]); first | done | (simp only [hji5]; rfl) | rfl | (simp only [List.length_drop, List.length_take]; rfl)) ?_
          with_reducible refine (spec_IsSibling.calls ((rd_T36 l0_1 a1).f0) ((rd_T36 l0_1 a1).f1) ((rd_T36 l0_1 a1).f2) ((rd_T36 l0_1 (ji5)).f0) ((rd_T36 l0_1 (ji5)).f1) ((rd_T36 l0_1 (ji5)).f2) true _ A8.out).mono ?_
          rintro e w23 ⟨rfl, hb⟩
          refine ⟨_, rfl, ?_⟩
          have n0_ := Aside0.mk (blk_bel BK509.out hb)
          have n1_ := Aside0.mk (cBs_ HB.out hb)
          clear BK509
          clear HB
          have BK509 := n0_
          have HB := n1_
          clear n0_ n1_
          (try clear hb)
          (try clear hb2)
          (try clear hk)
          (try clear hi)
          refine hK.out _ _ ⟨(blk_cell BK509.out 0).trans rfl, (blk_cell BK509.out 1).trans rfl, (bce_ HB.out hw511_0), (bce_ HB.out hw511_1), (bce_ HB.out hw511_2), (bce_ HB.out hw512_0), (bce_ HB.out hw512_1), (bce_ HB.out hw512_2)⟩ (fun hHeld => ?_)
          clear hK K
          refine norm_ (a' := ?_) ?_ ?_
          rotate_left
          ·
           show Act.put _ (some 23) _ = _
           simp only [Act.put, q1_, q2_, q3_, i64_w, i32_w]
           rfl
          refine pu_ HT_.out 12 24 #[Y_,Y_,Y_,Y_,Y_,Y_,Y_,Y_,Y_,Y_,Y_,Y_,Y_] ?_
          refine done_ (done_of HT_.out (by kernel_rfl)) ?_
          have hcz24 := cl2_ BK509.out
          have hfz24 := fr2_ BK509.out
          have p514 : 0 ≤ ((ji17) : Int) := of_decide_eq_true (by first | (with_reducible assumption) | assumption)
          have q514 : (ji17) < (l0_1.length : Int) := of_decide_eq_true (by first | (with_reducible assumption) | assumption)
          obtain ⟨ad514, e514, hx514_0, hx514_1, hx514_2⟩ := at_T36 HR0_1.out (ji17) p514 q514
          obtain rfl : ad510 = ad514 := (by injection e514)
          replace hx514_0 := bce_ HB.out hx514_0
          replace hx514_1 := bce_ HB.out hx514_1
          replace hx514_2 := bce_ HB.out hx514_2
          replace p514 := eq_true p514
          replace q514 := eq_true q514
          try go_wp2
          go_ret
          exact ⟨by first | rfl | (simp [errW_none, errW_some] <;> rfl) | (simp only [← hji5, ← hji17]; first | rfl | (simp [errW_none, errW_some] <;> rfl)) | (simp [*, errW_none, errW_some] <;> rfl), cB_ HB.out⟩
         ·
          rw [if_neg c19] at H
          exact absurd H (by simp)
        ·
         rw [if_neg c18] at H
         exact absurd H (by simp)
      ·
       rw [if_neg c10] at H
       have c10b0 : (a1 == 0) = false := beq_eq_false_iff_ne.mpr c10
       have c10b1 : (a1 != 0) = true := bne_iff_ne.mpr c10
       obtain ⟨ji25, hji25⟩ : ∃ j_ : Int, (wrap64 (a1 - 1)) = j_ := ⟨_, rfl⟩
       replace H : (if 0 ≤ (ji25) then (if (ji25) < (l0_1.length : Int) then (if ((rd_T36 l0_1 (ji25)).f1) ≤ ((rd_T36 l0_1 a1).f1) then (if (wrap64 (a1 + 2)) ≥ (l0_1.length : Int) then (some true) else (if 0 ≤ (wrap64 (a1 + 2)) then (if (wrap64 (a1 + 2)) < (l0_1.length : Int) then (some (decide (((rd_T36 l0_1 (wrap64 (a1 + 2))).f1) ≤ ((rd_T36 l0_1 a1).f1)))) else (none)) else (none))) else (some false)) else (none)) else (none)) = some r := by first | (rw [hji25] at H; exact H) | (simp only [hji25] at H ⊢; exact H)
       (try rw [hji25] at A8)
       have hji25w : (IntKind.i64.wrap (a1 - 1)) = ji25 := (i64_w _).trans hji25
       by_cases c26 : 0 ≤ (ji25)
       ·
        rw [if_pos c26] at H
        have c26b0 : decide (0 ≤ (ji25)) = true := decide_eq_true c26
        clear c26
        by_cases c27 : (ji25) < (l0_1.length : Int)
        ·
         rw [if_pos c27] at H
         have c27b0 : decide ((ji25) < (l0_1.length : Int)) = true := decide_eq_true c27
         clear c27
         by_cases c28 : ((rd_T36 l0_1 (ji25)).f1) ≤ ((rd_T36 l0_1 a1).f1)
         ·
          rw [if_pos c28] at H
          have c28b0 : decide (((rd_T36 l0_1 (ji25)).f1) ≤ ((rd_T36 l0_1 a1).f1)) = true := decide_eq_true c28
          clear c28
          by_cases c29 : (wrap64 (a1 + 2)) ≥ (l0_1.length : Int)
          ·
           rw [if_pos c29] at H
           have c29b0 : decide ((l0_1.length : Int) ≤ (wrap64 (a1 + 2))) = true := decide_eq_true c29
           clear c29
           obtain rfl := Option.some.inj H
           go_enter Try.func58, Try.ntmps58
           try go_wp2_with (first | ((with_reducible refine gate_dst (N := 2) rfl ?_); (try (refine gate_guard (by rfl) ?_; dsimp only)); refine bxe_ 2 #[.int .i64 a0_0, .slice A0_1 l0_1.length c0_1] 26 ?_; intro gb509 hg w30 hbox hb; have n0_ := Aside0.mk (bst_ HB.out hb); have n1_ := Aside0.mk (hbox); have n2_ := Aside0.mk (gz_ hg (bsz_ HB.out)); have n3_ := Aside0.mk (gz_ hg (bsz_ HB.out)); clear HB; have HB := n0_; have BK509 := n1_; have GW509 := n2_; have GE509 := n3_; clear n0_ n1_ n2_ n3_; clear hb hbox hg; have hcz31 := cl2_ BK509.out; have hfz31 := fr2_ BK509.out; have p510 : 0 ≤ (a1 : Int) := of_decide_eq_true (by first | (with_reducible assumption) | assumption); have q510 : a1 < (l0_1.length : Int) := of_decide_eq_true (by first | (with_reducible assumption) | assumption); obtain ⟨ad510, e510, hx510_0, hx510_1, hx510_2⟩ := at_T36 HR0_1.out a1 p510 q510; cases e510; replace hx510_0 := bce_ HB.out hx510_0; replace hx510_1 := bce_ HB.out hx510_1; replace hx510_2 := bce_ HB.out hx510_2; replace p510 := eq_true p510; replace q510 := eq_true q510))
           have n0_ := Aside0.mk (blk_drew BK509.out)
           have n1_ := Aside0.mk (below_drew1 HB.out)
           clear BK509
           clear HB
           have BK509 := n0_
           have HB := n1_
           clear n0_ n1_
           have p511 : 0 ≤ (a1 : Int) := of_decide_eq_true (by first | (with_reducible assumption) | assumption)
           have q511 : a1 < (l0_1.length : Int) := of_decide_eq_true (by first | (with_reducible assumption) | assumption)
           obtain ⟨ad511, e511, hx511_0, hx511_1, hx511_2⟩ := at_T36 HR0_1.out a1 p511 q511
           have hw511_2 := hx511_2
           have hw511_1 := hx511_1
           have hw511_0 := hx511_0
           obtain rfl : ad510 = ad511 := (by injection e511)
           replace hx511_0 := bce_ HB.out hx511_0
           replace hx511_1 := bce_ HB.out hx511_1
           replace hx511_2 := bce_ HB.out hx511_2
           replace p511 := eq_true p511
           replace q511 := eq_true q511
           have p512 : 0 ≤ ((ji5) : Int) := of_decide_eq_true (by first | (with_reducible assumption) | assumption)
           have q512 : (ji5) < (l0_1.length : Int) := of_decide_eq_true (by first | (with_reducible assumption) | assumption)
           obtain ⟨ad512, e512, hx512_0, hx512_1, hx512_2⟩ := at_T36 HR0_1.out (ji5) p512 q512
           have hw512_2 := hx512_2
           have hw512_1 := hx512_1
           have hw512_0 := hx512_0
           obtain rfl : ad510 = ad512 := (by injection e512)
           replace hx512_0 := bce_ HB.out hx512_0
           replace hx512_1 := bce_ HB.out hx512_1
           replace hx512_2 := bce_ HB.out hx512_2
           replace p512 := eq_true p512
           replace q512 := eq_true q512
           refine start_ (n := 13) (S := fun w' => w'.cell? ⟨gb509, 0, none⟩ = some (.int .i64 a0_0) ∧ w'.cell? ⟨gb509, 1, none⟩ = some (.slice (some ad510) l0_1.length c0_1) ∧ w'.cell? (ad510.add ((a1).toNat * 3)) = some (.int .i64 ((rd_T36 l0_1 a1).f0)) ∧ w'.cell? ⟨(ad510.add ((a1).toNat * 3)).block, (ad510.add ((a1).toNat * 3)).off + 1, none⟩ = some (.int .i64 ((rd_T36 l0_1 a1).f1)) ∧ w'.cell? ⟨(ad510.add ((a1).toNat * 3)).block, (ad510.add ((a1).toNat * 3)).off + 2, none⟩ = some (.int .i64 ((rd_T36 l0_1 a1).f2)) ∧ w'.cell? (ad510.add (((ji5)).toNat * 3)) = some (.int .i64 ((rd_T36 l0_1 (ji5)).f0)) ∧ w'.cell? ⟨(ad510.add (((ji5)).toNat * 3)).block, (ad510.add (((ji5)).toNat * 3)).off + 1, none⟩ = some (.int .i64 ((rd_T36 l0_1 (ji5)).f1)) ∧ w'.cell? ⟨(ad510.add (((ji5)).toNat * 3)).block, (ad510.add (((ji5)).toNat * 3)).off + 2, none⟩ = some (.int .i64 ((rd_T36 l0_1 (ji5)).f2))) (ds := []) #[N_,N_,N_,N_,N_,N_,N_,N_,N_,N_,N_,N_,N_] (by kernel_rfl) rfl rfl ⟨(blk_cell BK509.out 0).trans rfl, (blk_cell BK509.out 1).trans rfl, (bce_ HB.out hw511_0), (bce_ HB.out hw511_1), (bce_ HB.out hw511_2), (bce_ HB.out hw512_0), (bce_ HB.out hw512_1), (bce_ HB.out hw512_2)⟩ (fun hHeld => ?_); refine with_tabW spec_l06May.tab2 spec_l06May.bits2 (fun HT_ HW_ => ?_)
           generalize w30.drew = w32 at BK509 HB hx511_0 hx511_1 hx511_2 hx512_0 hx512_1 hx512_2 hHeld ⊢
           refine pu_ HT_.out 0 12 #[Y_,N_,N_,N_,N_,N_,N_,N_,N_,N_,N_,N_,N_] ?_
           refine pu_ HT_.out 2 14 #[Y_,N_,Y_,N_,N_,N_,N_,N_,N_,N_,N_,N_,N_] ?_
           refine pu_ HT_.out 5 17 #[Y_,N_,Y_,N_,N_,Y_,N_,N_,N_,N_,N_,N_,N_] ?_
           refine pu_ HT_.out 7 19 #[Y_,N_,Y_,N_,N_,Y_,N_,Y_,N_,N_,N_,N_,N_] ?_
           refine pu_ HT_.out 8 20 #[Y_,N_,Y_,N_,N_,Y_,N_,Y_,Y_,N_,N_,N_,N_] ?_
           refine tk_ HT_.out HW_.out hHeld 1 13 #[Y_,Y_,Y_,N_,N_,Y_,N_,Y_,Y_,N_,N_,N_,N_] ?_
           refine pu_ HT_.out 3 15 #[Y_,Y_,Y_,Y_,N_,Y_,N_,Y_,Y_,N_,N_,N_,N_] ?_
           refine tk_ HT_.out HW_.out hHeld 4 16 #[Y_,Y_,Y_,Y_,Y_,Y_,N_,Y_,Y_,N_,N_,N_,N_] ?_
           refine tk_ HT_.out HW_.out hHeld 6 18 #[Y_,Y_,Y_,Y_,Y_,Y_,Y_,Y_,Y_,N_,N_,N_,N_] ?_
           refine pu_ HT_.out 9 21 #[Y_,Y_,Y_,Y_,Y_,Y_,Y_,Y_,Y_,Y_,N_,N_,N_] ?_
           refine tk_ HT_.out HW_.out hHeld 10 22 #[Y_,Y_,Y_,Y_,Y_,Y_,Y_,Y_,Y_,Y_,Y_,N_,N_] ?_
           refine one_ (i := 11) (N := some 23) #[Y_,Y_,Y_,Y_,Y_,Y_,Y_,Y_,Y_,Y_,Y_,Y_,N_] rfl rfl (one_of HT_.out (by kernel_rfl)) (by decide) (fun K hK => ?_)
           refine goes_ Try.func96 (by kernel_rfl) rfl #[.agg #[.int .i64 ((rd_T36 l0_1 a1).f0), .int .i64 ((rd_T36 l0_1 a1).f1), .int .i64 ((rd_T36 l0_1 a1).f2)], .agg #[.int .i64 ((rd_T36 l0_1 (ji5)).f0), .int .i64 ((rd_T36 l0_1 (ji5)).f1), .int .i64 ((rd_T36 l0_1 (ji5)).f2)]] (by rfl) rfl rfl (by (try simp only [List.map_toArray, List.map_cons, List.map_nil]); first | done | (simp only [hji5]; rfl) | rfl | (simp only [List.length_drop, List.length_take]; rfl)) ?_
           with_reducible refine (spec_IsSibling.calls ((rd_T36 l0_1 a1).f0) ((rd_T36 l0_1 a1).f1) ((rd_T36 l0_1 a1).f2) ((rd_T36 l0_1 (ji5)).f0) ((rd_T36 l0_1 (ji5)).f1) ((rd_T36 l0_1 (ji5)).f2) true _ A8.out).mono ?_
           rintro e w33 ⟨rfl, hb⟩
           refine ⟨_, rfl, ?_⟩
           have n0_ := Aside0.mk (blk_bel BK509.out hb)
           have n1_ := Aside0.mk (cBs_ HB.out hb)
           clear BK509
           clear HB
           have BK509 := n0_
           have HB := n1_
           clear n0_ n1_
           (try clear hb)
           (try clear hb2)
           (try clear hk)
           (try clear hi)
           refine hK.out _ _ ⟨(blk_cell BK509.out 0).trans rfl, (blk_cell BK509.out 1).trans rfl, (bce_ HB.out hw511_0), (bce_ HB.out hw511_1), (bce_ HB.out hw511_2), (bce_ HB.out hw512_0), (bce_ HB.out hw512_1), (bce_ HB.out hw512_2)⟩ (fun hHeld => ?_)
           clear hK K
           refine norm_ (a' := ?_) ?_ ?_
           rotate_left
           ·
            show Act.put _ (some 23) _ = _
            simp only [Act.put, q1_, q2_, q3_, i64_w, i32_w]
            rfl
           refine pu_ HT_.out 12 24 #[Y_,Y_,Y_,Y_,Y_,Y_,Y_,Y_,Y_,Y_,Y_,Y_,Y_] ?_
           refine done_ (done_of HT_.out (by kernel_rfl)) ?_
           have hcz34 := cl2_ BK509.out
           have hfz34 := fr2_ BK509.out
           have p515 : 0 ≤ ((ji25) : Int) := of_decide_eq_true (by first | (with_reducible assumption) | assumption)
           have q515 : (ji25) < (l0_1.length : Int) := of_decide_eq_true (by first | (with_reducible assumption) | assumption)
           obtain ⟨ad515, e515, hx515_0, hx515_1, hx515_2⟩ := at_T36 HR0_1.out (ji25) p515 q515
           obtain rfl : ad510 = ad515 := (by injection e515)
           replace hx515_0 := bce_ HB.out hx515_0
           replace hx515_1 := bce_ HB.out hx515_1
           replace hx515_2 := bce_ HB.out hx515_2
           replace p515 := eq_true p515
           replace q515 := eq_true q515
           try go_wp2
           go_ret
           exact ⟨by first | rfl | (simp [errW_none, errW_some] <;> rfl) | (simp only [← hji5, ← hji25]; first | rfl | (simp [errW_none, errW_some] <;> rfl)) | (simp [*, errW_none, errW_some] <;> rfl), cB_ HB.out⟩
          ·
           rw [if_neg c29] at H
           have c29b0 : decide ((l0_1.length : Int) ≤ (wrap64 (a1 + 2))) = false := decide_eq_false c29
           clear c29
           obtain ⟨ji35, hji35⟩ : ∃ j_ : Int, (wrap64 (a1 + 2)) = j_ := ⟨_, rfl⟩
           replace H : (if 0 ≤ (ji35) then (if (ji35) < (l0_1.length : Int) then (some (decide (((rd_T36 l0_1 (ji35)).f1) ≤ ((rd_T36 l0_1 a1).f1)))) else (none)) else (none)) = some r := by first | (rw [hji35] at H; exact H) | (simp only [hji35] at H ⊢; exact H)
           (try rw [hji35] at c29b0)
           (try rw [hji35] at A8)
           have hji35w : (IntKind.i64.wrap (a1 + 2)) = ji35 := (i64_w _).trans hji35
           by_cases c36 : 0 ≤ (ji35)
           ·
            rw [if_pos c36] at H
            have c36b0 : decide (0 ≤ (ji35)) = true := decide_eq_true c36
            clear c36
            by_cases c37 : (ji35) < (l0_1.length : Int)
            ·
             rw [if_pos c37] at H
             have c37b0 : decide ((ji35) < (l0_1.length : Int)) = true := decide_eq_true c37
             clear c37
             obtain rfl := Option.some.inj H
             go_enter Try.func58, Try.ntmps58
             try go_wp2_with (first | ((with_reducible refine gate_dst (N := 2) rfl ?_); (try (refine gate_guard (by rfl) ?_; dsimp only)); refine bxe_ 2 #[.int .i64 a0_0, .slice A0_1 l0_1.length c0_1] 26 ?_; intro gb509 hg w38 hbox hb; have n0_ := Aside0.mk (bst_ HB.out hb); have n1_ := Aside0.mk (hbox); have n2_ := Aside0.mk (gz_ hg (bsz_ HB.out)); have n3_ := Aside0.mk (gz_ hg (bsz_ HB.out)); clear HB; have HB := n0_; have BK509 := n1_; have GW509 := n2_; have GE509 := n3_; clear n0_ n1_ n2_ n3_; clear hb hbox hg; have hcz39 := cl2_ BK509.out; have hfz39 := fr2_ BK509.out; have p510 : 0 ≤ (a1 : Int) := of_decide_eq_true (by first | (with_reducible assumption) | assumption); have q510 : a1 < (l0_1.length : Int) := of_decide_eq_true (by first | (with_reducible assumption) | assumption); obtain ⟨ad510, e510, hx510_0, hx510_1, hx510_2⟩ := at_T36 HR0_1.out a1 p510 q510; cases e510; replace hx510_0 := bce_ HB.out hx510_0; replace hx510_1 := bce_ HB.out hx510_1; replace hx510_2 := bce_ HB.out hx510_2; replace p510 := eq_true p510; replace q510 := eq_true q510))
             have n0_ := Aside0.mk (blk_drew BK509.out)
             have n1_ := Aside0.mk (below_drew1 HB.out)
             clear BK509
             clear HB
             have BK509 := n0_
             have HB := n1_
             clear n0_ n1_
             have p511 : 0 ≤ (a1 : Int) := of_decide_eq_true (by first | (with_reducible assumption) | assumption)
             have q511 : a1 < (l0_1.length : Int) := of_decide_eq_true (by first | (with_reducible assumption) | assumption)
             obtain ⟨ad511, e511, hx511_0, hx511_1, hx511_2⟩ := at_T36 HR0_1.out a1 p511 q511
             have hw511_2 := hx511_2
             have hw511_1 := hx511_1
             have hw511_0 := hx511_0
             obtain rfl : ad510 = ad511 := (by injection e511)
             replace hx511_0 := bce_ HB.out hx511_0
             replace hx511_1 := bce_ HB.out hx511_1
             replace hx511_2 := bce_ HB.out hx511_2
             replace p511 := eq_true p511
             replace q511 := eq_true q511
             have p512 : 0 ≤ ((ji5) : Int) := of_decide_eq_true (by first | (with_reducible assumption) | assumption)
             have q512 : (ji5) < (l0_1.length : Int) := of_decide_eq_true (by first | (with_reducible assumption) | assumption)
             obtain ⟨ad512, e512, hx512_0, hx512_1, hx512_2⟩ := at_T36 HR0_1.out (ji5) p512 q512
             have hw512_2 := hx512_2
             have hw512_1 := hx512_1
             have hw512_0 := hx512_0
             obtain rfl : ad510 = ad512 := (by injection e512)
             replace hx512_0 := bce_ HB.out hx512_0
             replace hx512_1 := bce_ HB.out hx512_1
             replace hx512_2 := bce_ HB.out hx512_2
             replace p512 := eq_true p512
             replace q512 := eq_true q512
             refine start_ (n := 13) (S := fun w' => w'.cell? ⟨gb509, 0, none⟩ = some (.int .i64 a0_0) ∧ w'.cell? ⟨gb509, 1, none⟩ = some (.slice (some ad510) l0_1.length c0_1) ∧ w'.cell? (ad510.add ((a1).toNat * 3)) = some (.int .i64 ((rd_T36 l0_1 a1).f0)) ∧ w'.cell? ⟨(ad510.add ((a1).toNat * 3)).block, (ad510.add ((a1).toNat * 3)).off + 1, none⟩ = some (.int .i64 ((rd_T36 l0_1 a1).f1)) ∧ w'.cell? ⟨(ad510.add ((a1).toNat * 3)).block, (ad510.add ((a1).toNat * 3)).off + 2, none⟩ = some (.int .i64 ((rd_T36 l0_1 a1).f2)) ∧ w'.cell? (ad510.add (((ji5)).toNat * 3)) = some (.int .i64 ((rd_T36 l0_1 (ji5)).f0)) ∧ w'.cell? ⟨(ad510.add (((ji5)).toNat * 3)).block, (ad510.add (((ji5)).toNat * 3)).off + 1, none⟩ = some (.int .i64 ((rd_T36 l0_1 (ji5)).f1)) ∧ w'.cell? ⟨(ad510.add (((ji5)).toNat * 3)).block, (ad510.add (((ji5)).toNat * 3)).off + 2, none⟩ = some (.int .i64 ((rd_T36 l0_1 (ji5)).f2))) (ds := []) #[N_,N_,N_,N_,N_,N_,N_,N_,N_,N_,N_,N_,N_] (by kernel_rfl) rfl rfl ⟨(blk_cell BK509.out 0).trans rfl, (blk_cell BK509.out 1).trans rfl, (bce_ HB.out hw511_0), (bce_ HB.out hw511_1), (bce_ HB.out hw511_2), (bce_ HB.out hw512_0), (bce_ HB.out hw512_1), (bce_ HB.out hw512_2)⟩ (fun hHeld => ?_); refine with_tabW spec_l06May.tab2 spec_l06May.bits2 (fun HT_ HW_ => ?_)
             generalize w38.drew = w40 at BK509 HB hx511_0 hx511_1 hx511_2 hx512_0 hx512_1 hx512_2 hHeld ⊢
             refine pu_ HT_.out 0 12 #[Y_,N_,N_,N_,N_,N_,N_,N_,N_,N_,N_,N_,N_] ?_
             refine pu_ HT_.out 2 14 #[Y_,N_,Y_,N_,N_,N_,N_,N_,N_,N_,N_,N_,N_] ?_
             refine pu_ HT_.out 5 17 #[Y_,N_,Y_,N_,N_,Y_,N_,N_,N_,N_,N_,N_,N_] ?_
             refine pu_ HT_.out 7 19 #[Y_,N_,Y_,N_,N_,Y_,N_,Y_,N_,N_,N_,N_,N_] ?_
             refine pu_ HT_.out 8 20 #[Y_,N_,Y_,N_,N_,Y_,N_,Y_,Y_,N_,N_,N_,N_] ?_
             refine tk_ HT_.out HW_.out hHeld 1 13 #[Y_,Y_,Y_,N_,N_,Y_,N_,Y_,Y_,N_,N_,N_,N_] ?_
             refine pu_ HT_.out 3 15 #[Y_,Y_,Y_,Y_,N_,Y_,N_,Y_,Y_,N_,N_,N_,N_] ?_
             refine tk_ HT_.out HW_.out hHeld 4 16 #[Y_,Y_,Y_,Y_,Y_,Y_,N_,Y_,Y_,N_,N_,N_,N_] ?_
             refine tk_ HT_.out HW_.out hHeld 6 18 #[Y_,Y_,Y_,Y_,Y_,Y_,Y_,Y_,Y_,N_,N_,N_,N_] ?_
             refine pu_ HT_.out 9 21 #[Y_,Y_,Y_,Y_,Y_,Y_,Y_,Y_,Y_,Y_,N_,N_,N_] ?_
             refine tk_ HT_.out HW_.out hHeld 10 22 #[Y_,Y_,Y_,Y_,Y_,Y_,Y_,Y_,Y_,Y_,Y_,N_,N_] ?_
             refine one_ (i := 11) (N := some 23) #[Y_,Y_,Y_,Y_,Y_,Y_,Y_,Y_,Y_,Y_,Y_,Y_,N_] rfl rfl (one_of HT_.out (by kernel_rfl)) (by decide) (fun K hK => ?_)
             refine goes_ Try.func96 (by kernel_rfl) rfl #[.agg #[.int .i64 ((rd_T36 l0_1 a1).f0), .int .i64 ((rd_T36 l0_1 a1).f1), .int .i64 ((rd_T36 l0_1 a1).f2)], .agg #[.int .i64 ((rd_T36 l0_1 (ji5)).f0), .int .i64 ((rd_T36 l0_1 (ji5)).f1), .int .i64 ((rd_T36 l0_1 (ji5)).f2)]] (by rfl) rfl rfl (by (try simp only [List.map_toArray, List.map_cons, List.map_nil]); first | done | (simp only [hji5]; rfl) | rfl | (simp only [List.length_drop, List.length_take]; rfl)) ?_
             with_reducible refine (spec_IsSibling.calls ((rd_T36 l0_1 a1).f0) ((rd_T36 l0_1 a1).f1) ((rd_T36 l0_1 a1).f2) ((rd_T36 l0_1 (ji5)).f0) ((rd_T36 l0_1 (ji5)).f1) ((rd_T36 l0_1 (ji5)).f2) true _ A8.out).mono ?_
             rintro e w41 ⟨rfl, hb⟩
             refine ⟨_, rfl, ?_⟩
             have n0_ := Aside0.mk (blk_bel BK509.out hb)
             have n1_ := Aside0.mk (cBs_ HB.out hb)
             clear BK509
             clear HB
             have BK509 := n0_
             have HB := n1_
             clear n0_ n1_
             (try clear hb)
             (try clear hb2)
             (try clear hk)
             (try clear hi)
             refine hK.out _ _ ⟨(blk_cell BK509.out 0).trans rfl, (blk_cell BK509.out 1).trans rfl, (bce_ HB.out hw511_0), (bce_ HB.out hw511_1), (bce_ HB.out hw511_2), (bce_ HB.out hw512_0), (bce_ HB.out hw512_1), (bce_ HB.out hw512_2)⟩ (fun hHeld => ?_)
             clear hK K
             refine norm_ (a' := ?_) ?_ ?_
             rotate_left
             ·
              show Act.put _ (some 23) _ = _
              simp only [Act.put, q1_, q2_, q3_, i64_w, i32_w]
              rfl
             refine pu_ HT_.out 12 24 #[Y_,Y_,Y_,Y_,Y_,Y_,Y_,Y_,Y_,Y_,Y_,Y_,Y_] ?_
             refine done_ (done_of HT_.out (by kernel_rfl)) ?_
             have hcz42 := cl2_ BK509.out
             have hfz42 := fr2_ BK509.out
             have p515 : 0 ≤ ((ji25) : Int) := of_decide_eq_true (by first | (with_reducible assumption) | assumption)
             have q515 : (ji25) < (l0_1.length : Int) := of_decide_eq_true (by first | (with_reducible assumption) | assumption)
             obtain ⟨ad515, e515, hx515_0, hx515_1, hx515_2⟩ := at_T36 HR0_1.out (ji25) p515 q515
             obtain rfl : ad510 = ad515 := (by injection e515)
             replace hx515_0 := bce_ HB.out hx515_0
             replace hx515_1 := bce_ HB.out hx515_1
             replace hx515_2 := bce_ HB.out hx515_2
             replace p515 := eq_true p515
             replace q515 := eq_true q515
             have p516 : 0 ≤ ((ji35) : Int) := of_decide_eq_true (by first | (with_reducible assumption) | assumption)
             have q516 : (ji35) < (l0_1.length : Int) := of_decide_eq_true (by first | (with_reducible assumption) | assumption)
             obtain ⟨ad516, e516, hx516_0, hx516_1, hx516_2⟩ := at_T36 HR0_1.out (ji35) p516 q516
             obtain rfl : ad510 = ad516 := (by injection e516)
             replace hx516_0 := bce_ HB.out hx516_0
             replace hx516_1 := bce_ HB.out hx516_1
             replace hx516_2 := bce_ HB.out hx516_2
             replace p516 := eq_true p516
             replace q516 := eq_true q516
             try go_wp2
             go_ret
             exact ⟨by first | rfl | (simp [errW_none, errW_some] <;> rfl) | (simp only [← hji5, ← hji25, ← hji35]; first | rfl | (simp [errW_none, errW_some] <;> rfl)) | (simp [*, errW_none, errW_some] <;> rfl), cB_ HB.out⟩
            ·
             rw [if_neg c37] at H
             exact absurd H (by simp)
           ·
            rw [if_neg c36] at H
            exact absurd H (by simp)
         ·
          rw [if_neg c28] at H
          have c28b0 : decide (((rd_T36 l0_1 (ji25)).f1) ≤ ((rd_T36 l0_1 a1).f1)) = false := decide_eq_false c28
          clear c28
          obtain rfl := Option.some.inj H
          go_enter Try.func58, Try.ntmps58
          try go_wp2_with (first | ((with_reducible refine gate_dst (N := 2) rfl ?_); (try (refine gate_guard (by rfl) ?_; dsimp only)); refine bxe_ 2 #[.int .i64 a0_0, .slice A0_1 l0_1.length c0_1] 26 ?_; intro gb509 hg w43 hbox hb; have n0_ := Aside0.mk (bst_ HB.out hb); have n1_ := Aside0.mk (hbox); have n2_ := Aside0.mk (gz_ hg (bsz_ HB.out)); have n3_ := Aside0.mk (gz_ hg (bsz_ HB.out)); clear HB; have HB := n0_; have BK509 := n1_; have GW509 := n2_; have GE509 := n3_; clear n0_ n1_ n2_ n3_; clear hb hbox hg; have hcz44 := cl2_ BK509.out; have hfz44 := fr2_ BK509.out; have p510 : 0 ≤ (a1 : Int) := of_decide_eq_true (by first | (with_reducible assumption) | assumption); have q510 : a1 < (l0_1.length : Int) := of_decide_eq_true (by first | (with_reducible assumption) | assumption); obtain ⟨ad510, e510, hx510_0, hx510_1, hx510_2⟩ := at_T36 HR0_1.out a1 p510 q510; cases e510; replace hx510_0 := bce_ HB.out hx510_0; replace hx510_1 := bce_ HB.out hx510_1; replace hx510_2 := bce_ HB.out hx510_2; replace p510 := eq_true p510; replace q510 := eq_true q510))
          have n0_ := Aside0.mk (blk_drew BK509.out)
          have n1_ := Aside0.mk (below_drew1 HB.out)
          clear BK509
          clear HB
          have BK509 := n0_
          have HB := n1_
          clear n0_ n1_
          have p511 : 0 ≤ (a1 : Int) := of_decide_eq_true (by first | (with_reducible assumption) | assumption)
          have q511 : a1 < (l0_1.length : Int) := of_decide_eq_true (by first | (with_reducible assumption) | assumption)
          obtain ⟨ad511, e511, hx511_0, hx511_1, hx511_2⟩ := at_T36 HR0_1.out a1 p511 q511
          have hw511_2 := hx511_2
          have hw511_1 := hx511_1
          have hw511_0 := hx511_0
          obtain rfl : ad510 = ad511 := (by injection e511)
          replace hx511_0 := bce_ HB.out hx511_0
          replace hx511_1 := bce_ HB.out hx511_1
          replace hx511_2 := bce_ HB.out hx511_2
          replace p511 := eq_true p511
          replace q511 := eq_true q511
          have p512 : 0 ≤ ((ji5) : Int) := of_decide_eq_true (by first | (with_reducible assumption) | assumption)
          have q512 : (ji5) < (l0_1.length : Int) := of_decide_eq_true (by first | (with_reducible assumption) | assumption)
          obtain ⟨ad512, e512, hx512_0, hx512_1, hx512_2⟩ := at_T36 HR0_1.out (ji5) p512 q512
          have hw512_2 := hx512_2
          have hw512_1 := hx512_1
          have hw512_0 := hx512_0
          obtain rfl : ad510 = ad512 := (by injection e512)
          replace hx512_0 := bce_ HB.out hx512_0
          replace hx512_1 := bce_ HB.out hx512_1
          replace hx512_2 := bce_ HB.out hx512_2
          replace p512 := eq_true p512
          replace q512 := eq_true q512
          refine start_ (n := 13) (S := fun w' => w'.cell? ⟨gb509, 0, none⟩ = some (.int .i64 a0_0) ∧ w'.cell? ⟨gb509, 1, none⟩ = some (.slice (some ad510) l0_1.length c0_1) ∧ w'.cell? (ad510.add ((a1).toNat * 3)) = some (.int .i64 ((rd_T36 l0_1 a1).f0)) ∧ w'.cell? ⟨(ad510.add ((a1).toNat * 3)).block, (ad510.add ((a1).toNat * 3)).off + 1, none⟩ = some (.int .i64 ((rd_T36 l0_1 a1).f1)) ∧ w'.cell? ⟨(ad510.add ((a1).toNat * 3)).block, (ad510.add ((a1).toNat * 3)).off + 2, none⟩ = some (.int .i64 ((rd_T36 l0_1 a1).f2)) ∧ w'.cell? (ad510.add (((ji5)).toNat * 3)) = some (.int .i64 ((rd_T36 l0_1 (ji5)).f0)) ∧ w'.cell? ⟨(ad510.add (((ji5)).toNat * 3)).block, (ad510.add (((ji5)).toNat * 3)).off + 1, none⟩ = some (.int .i64 ((rd_T36 l0_1 (ji5)).f1)) ∧ w'.cell? ⟨(ad510.add (((ji5)).toNat * 3)).block, (ad510.add (((ji5)).toNat * 3)).off + 2, none⟩ = some (.int .i64 ((rd_T36 l0_1 (ji5)).f2))) (ds := []) #[N_,N_,N_,N_,N_,N_,N_,N_,N_,N_,N_,N_,N_] (by kernel_rfl) rfl rfl ⟨(blk_cell BK509.out 0).trans rfl, (blk_cell BK509.out 1).trans rfl, (bce_ HB.out hw511_0), (bce_ HB.out hw511_1), (bce_ HB.out hw511_2), (bce_ HB.out hw512_0), (bce_ HB.out hw512_1), (bce_ HB.out hw512_2)⟩ (fun hHeld => ?_); refine with_tabW spec_l06May.tab2 spec_l06May.bits2 (fun HT_ HW_ => ?_)
          generalize w43.drew = w45 at BK509 HB hx511_0 hx511_1 hx511_2 hx512_0 hx512_1 hx512_2 hHeld ⊢
          refine pu_ HT_.out 0 12 #[Y_,N_,N_,N_,N_,N_,N_,N_,N_,N_,N_,N_,N_] ?_
          refine pu_ HT_.out 2 14 #[Y_,N_,Y_,N_,N_,N_,N_,N_,N_,N_,N_,N_,N_] ?_
          refine pu_ HT_.out 5 17 #[Y_,N_,Y_,N_,N_,Y_,N_,N_,N_,N_,N_,N_,N_] ?_
          refine pu_ HT_.out 7 19 #[Y_,N_,Y_,N_,N_,Y_,N_,Y_,N_,N_,N_,N_,N_] ?_
          refine pu_ HT_.out 8 20 #[Y_,N_,Y_,N_,N_,Y_,N_,Y_,Y_,N_,N_,N_,N_] ?_
          refine tk_ HT_.out HW_.out hHeld 1 13 #[Y_,Y_,Y_,N_,N_,Y_,N_,Y_,Y_,N_,N_,N_,N_] ?_
          refine pu_ HT_.out 3 15 #[Y_,Y_,Y_,Y_,N_,Y_,N_,Y_,Y_,N_,N_,N_,N_] ?_
          refine tk_ HT_.out HW_.out hHeld 4 16 #[Y_,Y_,Y_,Y_,Y_,Y_,N_,Y_,Y_,N_,N_,N_,N_] ?_
          refine tk_ HT_.out HW_.out hHeld 6 18 #[Y_,Y_,Y_,Y_,Y_,Y_,Y_,Y_,Y_,N_,N_,N_,N_] ?_
          refine pu_ HT_.out 9 21 #[Y_,Y_,Y_,Y_,Y_,Y_,Y_,Y_,Y_,Y_,N_,N_,N_] ?_
          refine tk_ HT_.out HW_.out hHeld 10 22 #[Y_,Y_,Y_,Y_,Y_,Y_,Y_,Y_,Y_,Y_,Y_,N_,N_] ?_
          refine one_ (i := 11) (N := some 23) #[Y_,Y_,Y_,Y_,Y_,Y_,Y_,Y_,Y_,Y_,Y_,Y_,N_] rfl rfl (one_of HT_.out (by kernel_rfl)) (by decide) (fun K hK => ?_)
          refine goes_ Try.func96 (by kernel_rfl) rfl #[.agg #[.int .i64 ((rd_T36 l0_1 a1).f0), .int .i64 ((rd_T36 l0_1 a1).f1), .int .i64 ((rd_T36 l0_1 a1).f2)], .agg #[.int .i64 ((rd_T36 l0_1 (ji5)).f0), .int .i64 ((rd_T36 l0_1 (ji5)).f1), .int .i64 ((rd_T36 l0_1 (ji5)).f2)]] (by rfl) rfl rfl (by (try simp only [List.map_toArray, List.map_cons, List.map_nil]); first | done | (simp only [hji5]; rfl) | rfl | (simp only [List.length_drop, List.length_take]; rfl)) ?_
          with_reducible refine (spec_IsSibling.calls ((rd_T36 l0_1 a1).f0) ((rd_T36 l0_1 a1).f1) ((rd_T36 l0_1 a1).f2) ((rd_T36 l0_1 (ji5)).f0) ((rd_T36 l0_1 (ji5)).f1) ((rd_T36 l0_1 (ji5)).f2) true _ A8.out).mono ?_
          rintro e w46 ⟨rfl, hb⟩
          refine ⟨_, rfl, ?_⟩
          have n0_ := Aside0.mk (blk_bel BK509.out hb)
          have n1_ := Aside0.mk (cBs_ HB.out hb)
          clear BK509
          clear HB
          have BK509 := n0_
          have HB := n1_
          clear n0_ n1_
          (try clear hb)
          (try clear hb2)
          (try clear hk)
          (try clear hi)
          refine hK.out _ _ ⟨(blk_cell BK509.out 0).trans rfl, (blk_cell BK509.out 1).trans rfl, (bce_ HB.out hw511_0), (bce_ HB.out hw511_1), (bce_ HB.out hw511_2), (bce_ HB.out hw512_0), (bce_ HB.out hw512_1), (bce_ HB.out hw512_2)⟩ (fun hHeld => ?_)
          clear hK K
          refine norm_ (a' := ?_) ?_ ?_
          rotate_left
          ·
           show Act.put _ (some 23) _ = _
           simp only [Act.put, q1_, q2_, q3_, i64_w, i32_w]
           rfl
          refine pu_ HT_.out 12 24 #[Y_,Y_,Y_,Y_,Y_,Y_,Y_,Y_,Y_,Y_,Y_,Y_,Y_] ?_
          refine done_ (done_of HT_.out (by kernel_rfl)) ?_
          have hcz47 := cl2_ BK509.out
          have hfz47 := fr2_ BK509.out
          have p515 : 0 ≤ ((ji25) : Int) := of_decide_eq_true (by first | (with_reducible assumption) | assumption)
          have q515 : (ji25) < (l0_1.length : Int) := of_decide_eq_true (by first | (with_reducible assumption) | assumption)
          obtain ⟨ad515, e515, hx515_0, hx515_1, hx515_2⟩ := at_T36 HR0_1.out (ji25) p515 q515
          obtain rfl : ad510 = ad515 := (by injection e515)
          replace hx515_0 := bce_ HB.out hx515_0
          replace hx515_1 := bce_ HB.out hx515_1
          replace hx515_2 := bce_ HB.out hx515_2
          replace p515 := eq_true p515
          replace q515 := eq_true q515
          try go_wp2
          go_ret
          exact ⟨by first | rfl | (simp [errW_none, errW_some] <;> rfl) | (simp only [← hji5, ← hji25]; first | rfl | (simp [errW_none, errW_some] <;> rfl)) | (simp [*, errW_none, errW_some] <;> rfl), cB_ HB.out⟩
        ·
         rw [if_neg c27] at H
         exact absurd H (by simp)
       ·
        rw [if_neg c26] at H
        exact absurd H (by simp)
     ·
      replace c9 := Bool.eq_false_iff.mpr c9
      subst c9
      have H1 : (some false) = some r := by rw [if_neg (show ¬ (false = true) by decide)] at H; exact H
      clear H
      have H := H1
      clear H1
      obtain rfl := Option.some.inj H
      go_enter Try.func58, Try.ntmps58
      try go_wp2_with (first | ((with_reducible refine gate_dst (N := 2) rfl ?_); (try (refine gate_guard (by rfl) ?_; dsimp only)); refine bxe_ 2 #[.int .i64 a0_0, .slice A0_1 l0_1.length c0_1] 26 ?_; intro gb509 hg w48 hbox hb; have n0_ := Aside0.mk (bst_ HB.out hb); have n1_ := Aside0.mk (hbox); have n2_ := Aside0.mk (gz_ hg (bsz_ HB.out)); have n3_ := Aside0.mk (gz_ hg (bsz_ HB.out)); clear HB; have HB := n0_; have BK509 := n1_; have GW509 := n2_; have GE509 := n3_; clear n0_ n1_ n2_ n3_; clear hb hbox hg; have hcz49 := cl2_ BK509.out; have hfz49 := fr2_ BK509.out; have p510 : 0 ≤ (a1 : Int) := of_decide_eq_true (by first | (with_reducible assumption) | assumption); have q510 : a1 < (l0_1.length : Int) := of_decide_eq_true (by first | (with_reducible assumption) | assumption); obtain ⟨ad510, e510, hx510_0, hx510_1, hx510_2⟩ := at_T36 HR0_1.out a1 p510 q510; cases e510; replace hx510_0 := bce_ HB.out hx510_0; replace hx510_1 := bce_ HB.out hx510_1; replace hx510_2 := bce_ HB.out hx510_2; replace p510 := eq_true p510; replace q510 := eq_true q510))
      have n0_ := Aside0.mk (blk_drew BK509.out)
      have n1_ := Aside0.mk (below_drew1 HB.out)
      clear BK509
      clear HB
      have BK509 := n0_
      have HB := n1_
      clear n0_ n1_
      have p511 : 0 ≤ (a1 : Int) := of_decide_eq_true (by first | (with_reducible assumption) | assumption)
      have q511 : a1 < (l0_1.length : Int) := of_decide_eq_true (by first | (with_reducible assumption) | assumption)
      obtain ⟨ad511, e511, hx511_0, hx511_1, hx511_2⟩ := at_T36 HR0_1.out a1 p511 q511
      have hw511_2 := hx511_2
      have hw511_1 := hx511_1
      have hw511_0 := hx511_0
      obtain rfl : ad510 = ad511 := (by injection e511)
      replace hx511_0 := bce_ HB.out hx511_0
      replace hx511_1 := bce_ HB.out hx511_1
      replace hx511_2 := bce_ HB.out hx511_2
      replace p511 := eq_true p511
      replace q511 := eq_true q511
      have p512 : 0 ≤ ((ji5) : Int) := of_decide_eq_true (by first | (with_reducible assumption) | assumption)
      have q512 : (ji5) < (l0_1.length : Int) := of_decide_eq_true (by first | (with_reducible assumption) | assumption)
      obtain ⟨ad512, e512, hx512_0, hx512_1, hx512_2⟩ := at_T36 HR0_1.out (ji5) p512 q512
      have hw512_2 := hx512_2
      have hw512_1 := hx512_1
      have hw512_0 := hx512_0
      obtain rfl : ad510 = ad512 := (by injection e512)
      replace hx512_0 := bce_ HB.out hx512_0
      replace hx512_1 := bce_ HB.out hx512_1
      replace hx512_2 := bce_ HB.out hx512_2
      replace p512 := eq_true p512
      replace q512 := eq_true q512
      refine start_ (n := 13) (S := fun w' => w'.cell? ⟨gb509, 0, none⟩ = some (.int .i64 a0_0) ∧ w'.cell? ⟨gb509, 1, none⟩ = some (.slice (some ad510) l0_1.length c0_1) ∧ w'.cell? (ad510.add ((a1).toNat * 3)) = some (.int .i64 ((rd_T36 l0_1 a1).f0)) ∧ w'.cell? ⟨(ad510.add ((a1).toNat * 3)).block, (ad510.add ((a1).toNat * 3)).off + 1, none⟩ = some (.int .i64 ((rd_T36 l0_1 a1).f1)) ∧ w'.cell? ⟨(ad510.add ((a1).toNat * 3)).block, (ad510.add ((a1).toNat * 3)).off + 2, none⟩ = some (.int .i64 ((rd_T36 l0_1 a1).f2)) ∧ w'.cell? (ad510.add (((ji5)).toNat * 3)) = some (.int .i64 ((rd_T36 l0_1 (ji5)).f0)) ∧ w'.cell? ⟨(ad510.add (((ji5)).toNat * 3)).block, (ad510.add (((ji5)).toNat * 3)).off + 1, none⟩ = some (.int .i64 ((rd_T36 l0_1 (ji5)).f1)) ∧ w'.cell? ⟨(ad510.add (((ji5)).toNat * 3)).block, (ad510.add (((ji5)).toNat * 3)).off + 2, none⟩ = some (.int .i64 ((rd_T36 l0_1 (ji5)).f2))) (ds := []) #[N_,N_,N_,N_,N_,N_,N_,N_,N_,N_,N_,N_,N_] (by kernel_rfl) rfl rfl ⟨(blk_cell BK509.out 0).trans rfl, (blk_cell BK509.out 1).trans rfl, (bce_ HB.out hw511_0), (bce_ HB.out hw511_1), (bce_ HB.out hw511_2), (bce_ HB.out hw512_0), (bce_ HB.out hw512_1), (bce_ HB.out hw512_2)⟩ (fun hHeld => ?_); refine with_tabW spec_l06May.tab2 spec_l06May.bits2 (fun HT_ HW_ => ?_)
      generalize w48.drew = w50 at BK509 HB hx511_0 hx511_1 hx511_2 hx512_0 hx512_1 hx512_2 hHeld ⊢
      refine pu_ HT_.out 0 12 #[Y_,N_,N_,N_,N_,N_,N_,N_,N_,N_,N_,N_,N_] ?_
      refine pu_ HT_.out 2 14 #[Y_,N_,Y_,N_,N_,N_,N_,N_,N_,N_,N_,N_,N_] ?_
      refine pu_ HT_.out 5 17 #[Y_,N_,Y_,N_,N_,Y_,N_,N_,N_,N_,N_,N_,N_] ?_
      refine pu_ HT_.out 7 19 #[Y_,N_,Y_,N_,N_,Y_,N_,Y_,N_,N_,N_,N_,N_] ?_
      refine pu_ HT_.out 8 20 #[Y_,N_,Y_,N_,N_,Y_,N_,Y_,Y_,N_,N_,N_,N_] ?_
      refine tk_ HT_.out HW_.out hHeld 1 13 #[Y_,Y_,Y_,N_,N_,Y_,N_,Y_,Y_,N_,N_,N_,N_] ?_
      refine pu_ HT_.out 3 15 #[Y_,Y_,Y_,Y_,N_,Y_,N_,Y_,Y_,N_,N_,N_,N_] ?_
      refine tk_ HT_.out HW_.out hHeld 4 16 #[Y_,Y_,Y_,Y_,Y_,Y_,N_,Y_,Y_,N_,N_,N_,N_] ?_
      refine tk_ HT_.out HW_.out hHeld 6 18 #[Y_,Y_,Y_,Y_,Y_,Y_,Y_,Y_,Y_,N_,N_,N_,N_] ?_
      refine pu_ HT_.out 9 21 #[Y_,Y_,Y_,Y_,Y_,Y_,Y_,Y_,Y_,Y_,N_,N_,N_] ?_
      refine tk_ HT_.out HW_.out hHeld 10 22 #[Y_,Y_,Y_,Y_,Y_,Y_,Y_,Y_,Y_,Y_,Y_,N_,N_] ?_
      refine one_ (i := 11) (N := some 23) #[Y_,Y_,Y_,Y_,Y_,Y_,Y_,Y_,Y_,Y_,Y_,Y_,N_] rfl rfl (one_of HT_.out (by kernel_rfl)) (by decide) (fun K hK => ?_)
      refine goes_ Try.func96 (by kernel_rfl) rfl #[.agg #[.int .i64 ((rd_T36 l0_1 a1).f0), .int .i64 ((rd_T36 l0_1 a1).f1), .int .i64 ((rd_T36 l0_1 a1).f2)], .agg #[.int .i64 ((rd_T36 l0_1 (ji5)).f0), .int .i64 ((rd_T36 l0_1 (ji5)).f1), .int .i64 ((rd_T36 l0_1 (ji5)).f2)]] (by rfl) rfl rfl (by (try simp only [List.map_toArray, List.map_cons, List.map_nil]); first | done | (simp only [hji5]; rfl) | rfl | (simp only [List.length_drop, List.length_take]; rfl)) ?_
      with_reducible refine (spec_IsSibling.calls ((rd_T36 l0_1 a1).f0) ((rd_T36 l0_1 a1).f1) ((rd_T36 l0_1 a1).f2) ((rd_T36 l0_1 (ji5)).f0) ((rd_T36 l0_1 (ji5)).f1) ((rd_T36 l0_1 (ji5)).f2) false _ A8.out).mono ?_
      rintro e w51 ⟨rfl, hb⟩
      refine ⟨_, rfl, ?_⟩
      have n0_ := Aside0.mk (blk_bel BK509.out hb)
      have n1_ := Aside0.mk (cBs_ HB.out hb)
      clear BK509
      clear HB
      have BK509 := n0_
      have HB := n1_
      clear n0_ n1_
      (try clear hb)
      (try clear hb2)
      (try clear hk)
      (try clear hi)
      refine hK.out _ _ ⟨(blk_cell BK509.out 0).trans rfl, (blk_cell BK509.out 1).trans rfl, (bce_ HB.out hw511_0), (bce_ HB.out hw511_1), (bce_ HB.out hw511_2), (bce_ HB.out hw512_0), (bce_ HB.out hw512_1), (bce_ HB.out hw512_2)⟩ (fun hHeld => ?_)
      clear hK K
      refine norm_ (a' := ?_) ?_ ?_
      rotate_left
      ·
       show Act.put _ (some 23) _ = _
       simp only [Act.put, q1_, q2_, q3_, i64_w, i32_w]
       rfl
      refine pu_ HT_.out 12 24 #[Y_,Y_,Y_,Y_,Y_,Y_,Y_,Y_,Y_,Y_,Y_,Y_,Y_] ?_
      refine done_ (done_of HT_.out (by kernel_rfl)) ?_
      try go_wp2
      go_ret
      exact ⟨by first | rfl | (simp [errW_none, errW_some] <;> rfl) | (simp only [← hji5]; first | rfl | (simp [errW_none, errW_some] <;> rfl)) | (simp [*, errW_none, errW_some] <;> rfl), cB_ HB.out⟩
    ·
     rw [if_neg c7] at H
     exact absurd H (by simp)
   ·
    rw [if_neg c6] at H
    exact absurd H (by simp)
  ·
   rw [if_neg c4] at H
   exact absurd H (by simp)
 ·
  rw [if_neg c3] at H
  exact absurd H (by simp)

end Go.Proofs.Ytbkkehjhfgocfaa.PFnTransferred
