/- Written by this repo's own copy of a print: plain functions beneath a law, and the proof that the program computes them; no condition. -/
import Derived.Test.YtbkkehjhfgocfaaPFnTransferredx0
import Derived.Test.YtbkkehjhfgocfaaPFnTransferredx6
namespace Go.Proofs.Ytbkkehjhfgocfaa.PFnTransferred
open Go.RowKit Go.Proofs.YtbkkehjhfgocfaaW.PrintWords Go.Proofs.YtbkkehjhfgocfaaW.PrintLast Go.Proofs.YtbkkehjhfgocfaaW.PrintMore
attribute [local go_sem] max2_int min2_int max_two min_two max_three min_three max_four min_four   -- for this text's walks alone
set_option linter.unusedVariables false
set_option linter.unusedSimpArgs false

/-! ### impl_Mesh_unbalanced: function 102 -/
def impl_Mesh_unbalanced.l0 : Nat → Int → Int → Int → List (S36) → Option (Int)
 | 0, _, _, _, _ => none
 | k + 1, x7, x8, x329000, x329001 => if x8 < x7 then (if 0 ≤ x8 then (if x8 < (x329001.length : Int) then (if 0 ≤ (wrap64 (x8 + 1)) then (if (wrap64 (x8 + 1)) < (x329001.length : Int) then ((impl_absolute.f (wrap64 (((rd_T36 x329001 x8).f1) - ((rd_T36 x329001 (wrap64 (x8 + 1))).f1)))).bind fun t331 => (if t331 > 1 then (some x8) else (impl_Mesh_unbalanced.l0 k x7 (wrap64 (x8 + 1)) x329000 x329001))) else (none)) else (none)) else (none)) else (none)) else (some (-1))
def impl_Mesh_unbalanced.f (k : Nat) (a0_0 : Int) (l0_1 : List (S36)) : Option (Int) := impl_Mesh_unbalanced.l0 k (wrap64 ((l0_1.length : Int) - 1)) 0 a0_0 l0_1
theorem impl_Mesh_unbalanced.mono_l : ∀ k, (∀ y0 y1 y2 y3, LeO (impl_Mesh_unbalanced.l0 k y0 y1 y2 y3) (impl_Mesh_unbalanced.l0 (k + 1) y0 y1 y2 y3))
 | 0 => fun _ _ _ _ r h => by simp [impl_Mesh_unbalanced.l0] at h
 | k + 1 => by
  have ih0 := impl_Mesh_unbalanced.mono_l k
  ·
   intro y0 y1 y2 y3
   unfold impl_Mesh_unbalanced.l0
   repeat' first
   | (with_reducible exact ih0 _ _ _ _)
   | (with_reducible exact LeO.refl _)
   | (with_reducible exact LeO.none _)
   | (with_reducible refine LeO.ite ?_ ?_)
   | (with_reducible refine LeO.bind ?_ (fun _ => ?_))
   | exact ih0 _ _ _ _
   | exact LeO.none _
   | refine LeO.ite ?_ ?_
   | refine LeO.bind ?_ (fun _ => ?_)
theorem impl_Mesh_unbalanced.mono : ∀ a0 a1 k, LeO (impl_Mesh_unbalanced.f k a0 a1) (impl_Mesh_unbalanced.f (k + 1) a0 a1) := by
 intro a0 a1 k
 have ih0 := impl_Mesh_unbalanced.mono_l k
 unfold impl_Mesh_unbalanced.f
 repeat' first
   | (with_reducible exact ih0 _ _ _ _)
   | (with_reducible exact LeO.refl _)
   | (with_reducible exact LeO.none _)
   | (with_reducible refine LeO.ite ?_ ?_)
   | (with_reducible refine LeO.bind ?_ (fun _ => ?_))
   | exact ih0 _ _ _ _
   | exact LeO.none _
   | refine LeO.ite ?_ ?_
   | refine LeO.bind ?_ (fun _ => ?_)
def impl_Mesh_unbalanced.T4 : Bool × List (List Nat × List Nat) := (true, [([], []), ([0], [0]), ([], []), ([1, 2], [1, 2]), ([3], [3]), ([4], [4]), ([], []), ([6], [6]), ([], []), ([8], [8]), ([7, 9], [7, 9]), ([10], [10]), ([11], [11]), ([5, 12], [5, 12]), ([13], [13]), ([14], [14])])
def impl_Mesh_unbalanced.B4 : List Nat := [0, 1, 0, 7, 15, 31, 0, 64, 0, 256, 960, 1984, 4032, 8191, 16383, 32767]
theorem impl_Mesh_unbalanced.tab4 : rtab .any (opsOf Try.f102 4) = impl_Mesh_unbalanced.T4 := by kernel_rfl
theorem impl_Mesh_unbalanced.bits4 : waitsOk impl_Mesh_unbalanced.T4.2 impl_Mesh_unbalanced.B4 = true := by kernel_rfl
set_option maxHeartbeats 8000000 in
set_option maxRecDepth 100000 in
theorem impl_Mesh_unbalanced.calls (k : Nat) (a0_0 : Int) (A0_1 : Option Addr) (c0_1 : Nat) (l0_1 : List (S36)) (r : Int) (w : World) (hr0_1 : Kd.C k36 w A0_1 l0_1.length l0_1) (hc0_1 : l0_1.length ≤ c0_1) (h : impl_Mesh_unbalanced.f k a0_0 l0_1 = some r) :
  Calls Try.prog 102 #[.agg #[.int .i64 a0_0, .slice A0_1 l0_1.length c0_1]] w fun e w' => e = .returned (.int .i64 r) ∧ Below w.heap.size w w' := by
 have hu26 := Try.underlying26
 have HR0_1 := Aside0.mk hr0_1
 have HC0_1 := Aside0.mk hc0_1
 clear hr0_1 hc0_1
 have HB := Aside0.mk (Below.refl w.heap.size w)
 have H : (impl_Mesh_unbalanced.l0 k (wrap64 ((l0_1.length : Int) - 1)) 0 a0_0 l0_1) = some r := h
 clear h
 have H' := Aside0.mk H
 clear H
 go_enter Try.func102, Try.ntmps102
 go_wp2_with (first | ((with_reducible refine gate_dst (N := 1) rfl ?_); refine bxe_ 1 #[.int .i64 a0_0, .slice A0_1 l0_1.length c0_1] 26 ?_; intro gb328 hg w2 hbox hb; have n0_ := Aside0.mk (bst_ HB.out hb); have n1_ := Aside0.mk (hbox); have n2_ := Aside0.mk (gz_ hg (bsz_ HB.out)); have n3_ := Aside0.mk (gz_ hg (bsz_ HB.out)); clear HB; have HB := n0_; have BK328 := n1_; have GW328 := n2_; have GE328 := n3_; clear n0_ n1_ n2_ n3_; clear hb hbox hg; have hcz3 := cl2_ BK328.out; have hfz3 := fr2_ BK328.out))
 go_loopg [8] k (fun kq v8 w' => ∃ (x8_1 : Int), v8 = .int .i64 x8_1 ∧ Aside0 (impl_Mesh_unbalanced.l0 kq (wrap64 ((l0_1.length : Int) - 1)) x8_1 a0_0 l0_1 = some r) ∧ Aside0 (kq ≤ k) ∧ Aside0 (w'.heap[gb328]? = some (.cells #[.int .i64 a0_0, (.slice A0_1 l0_1.length c0_1)] 26 (0, 0))) ∧ Aside0 (Below w.heap.size w w'))
 case atStart => exact ⟨(0), (by first | rfl | (simp; done) | (simp [*]; done)), H', ⟨Nat.le_refl _⟩, ⟨cb_ BK328.out⟩, ⟨cB_ HB.out⟩⟩
 case round =>
  clear H'
  try clear c1
  try clear p2
  try clear hcz3
  try clear hfz3
  obtain ⟨x8_1, rfl, HA, HK1, BK328, HB⟩ := hrel
  cases gk with
  | zero => exact absurd HA.out (by simp [impl_Mesh_unbalanced.l0])
  | succ k1 =>
   have H := HA.out
   clear HA
   simp only [impl_Mesh_unbalanced.l0] at H
   by_cases c4 : x8_1 < (wrap64 ((l0_1.length : Int) - 1))
   ·
    rw [if_pos c4] at H
    have c4b0 : decide (x8_1 < (wrap64 ((l0_1.length : Int) - 1))) = true := decide_eq_true c4
    clear c4
    by_cases c5 : 0 ≤ x8_1
    ·
     rw [if_pos c5] at H
     have c5b0 : decide (0 ≤ x8_1) = true := decide_eq_true c5
     clear c5
     by_cases c6 : x8_1 < (l0_1.length : Int)
     ·
      rw [if_pos c6] at H
      have c6b0 : decide (x8_1 < (l0_1.length : Int)) = true := decide_eq_true c6
      clear c6
      obtain ⟨ji7, hji7⟩ : ∃ j_ : Int, (wrap64 (x8_1 + 1)) = j_ := ⟨_, rfl⟩
      replace H : (if 0 ≤ (ji7) then (if (ji7) < (l0_1.length : Int) then ((impl_absolute.f (wrap64 (((rd_T36 l0_1 x8_1).f1) - ((rd_T36 l0_1 (ji7)).f1)))).bind fun t331 => (if t331 > 1 then (some x8_1) else (impl_Mesh_unbalanced.l0 k1 (wrap64 ((l0_1.length : Int) - 1)) ji7 a0_0 l0_1))) else (none)) else (none)) = some r := by first | (rw [hji7] at H; exact H) | (simp only [hji7] at H ⊢; exact H)
      have hji7w : (IntKind.i64.wrap (x8_1 + 1)) = ji7 := (i64_w _).trans hji7
      by_cases c8 : 0 ≤ (ji7)
      ·
       rw [if_pos c8] at H
       have c8b0 : decide (0 ≤ (ji7)) = true := decide_eq_true c8
       clear c8
       by_cases c9 : (ji7) < (l0_1.length : Int)
       ·
        rw [if_pos c9] at H
        have c9b0 : decide ((ji7) < (l0_1.length : Int)) = true := decide_eq_true c9
        clear c9
        replace H := Option.bind_eq_some_iff.mp H
        obtain ⟨t331, A100, H⟩ := H
        (try dsimp only at H)
        have A10 := Aside0.mk A100
        clear A100
        by_cases c11 : t331 > 1
        ·
         rw [if_pos c11] at H
         have c11b0 : decide (1 < t331) = true := decide_eq_true c11
         clear c11
         obtain rfl := Option.some.inj H
         try go_wp2
         have n0_ := Aside0.mk (blk_drew BK328.out)
         have n1_ := Aside0.mk (below_drew1 HB.out)
         clear BK328
         clear HB
         have BK328 := n0_
         have HB := n1_
         clear n0_ n1_
         have p329 : 0 ≤ (x8_1 : Int) := of_decide_eq_true (by first | (with_reducible assumption) | assumption)
         have q329 : x8_1 < (l0_1.length : Int) := of_decide_eq_true (by first | (with_reducible assumption) | assumption)
         obtain ⟨ad329, e329, hx329_0, hx329_1, hx329_2⟩ := at_T36 HR0_1.out x8_1 p329 q329
         have hw329_2 := hx329_2
         have hw329_1 := hx329_1
         have hw329_0 := hx329_0
         cases e329
         replace hx329_0 := bce_ HB.out hx329_0
         replace hx329_1 := bce_ HB.out hx329_1
         replace hx329_2 := bce_ HB.out hx329_2
         replace p329 := eq_true p329
         replace q329 := eq_true q329
         have p330 : 0 ≤ ((ji7) : Int) := of_decide_eq_true (by first | (with_reducible assumption) | assumption)
         have q330 : (ji7) < (l0_1.length : Int) := of_decide_eq_true (by first | (with_reducible assumption) | assumption)
         obtain ⟨ad330, e330, hx330_0, hx330_1, hx330_2⟩ := at_T36 HR0_1.out (ji7) p330 q330
         have hw330_2 := hx330_2
         have hw330_1 := hx330_1
         have hw330_0 := hx330_0
         obtain rfl : ad329 = ad330 := (by injection e330)
         replace hx330_0 := bce_ HB.out hx330_0
         replace hx330_1 := bce_ HB.out hx330_1
         replace hx330_2 := bce_ HB.out hx330_2
         replace p330 := eq_true p330
         replace q330 := eq_true q330
         refine start_ (n := 16) (S := fun w' => w'.cell? ⟨gb328, 0, none⟩ = some (.int .i64 a0_0) ∧ w'.cell? ⟨gb328, 1, none⟩ = some (.slice (some ad329) l0_1.length c0_1) ∧ w'.cell? (ad329.add ((x8_1).toNat * 3)) = some (.int .i64 ((rd_T36 l0_1 x8_1).f0)) ∧ w'.cell? ⟨(ad329.add ((x8_1).toNat * 3)).block, (ad329.add ((x8_1).toNat * 3)).off + 1, none⟩ = some (.int .i64 ((rd_T36 l0_1 x8_1).f1)) ∧ w'.cell? ⟨(ad329.add ((x8_1).toNat * 3)).block, (ad329.add ((x8_1).toNat * 3)).off + 2, none⟩ = some (.int .i64 ((rd_T36 l0_1 x8_1).f2)) ∧ w'.cell? (ad329.add (((ji7)).toNat * 3)) = some (.int .i64 ((rd_T36 l0_1 (ji7)).f0)) ∧ w'.cell? ⟨(ad329.add (((ji7)).toNat * 3)).block, (ad329.add (((ji7)).toNat * 3)).off + 1, none⟩ = some (.int .i64 ((rd_T36 l0_1 (ji7)).f1)) ∧ w'.cell? ⟨(ad329.add (((ji7)).toNat * 3)).block, (ad329.add (((ji7)).toNat * 3)).off + 2, none⟩ = some (.int .i64 ((rd_T36 l0_1 (ji7)).f2))) (ds := []) #[N_,N_,N_,N_,N_,N_,N_,N_,N_,N_,N_,N_,N_,N_,N_,N_] (by kernel_rfl) rfl rfl ⟨(blk_cell BK328.out 0).trans rfl, (blk_cell BK328.out 1).trans rfl, (bce_ HB.out hw329_0), (bce_ HB.out hw329_1), (bce_ HB.out hw329_2), (bce_ HB.out hw330_0), (bce_ HB.out hw330_1), (bce_ HB.out hw330_2)⟩ (fun hHeld => ?_); refine with_tabW impl_Mesh_unbalanced.tab4 impl_Mesh_unbalanced.bits4 (fun HT_ HW_ => ?_)
         generalize wr.drew = w12 at BK328 HB hx329_0 hx329_1 hx329_2 hx330_0 hx330_1 hx330_2 hHeld ⊢
         refine pu_ HT_.out 0 11 #[Y_,N_,N_,N_,N_,N_,N_,N_,N_,N_,N_,N_,N_,N_,N_,N_] ?_
         refine pu_ HT_.out 2 13 #[Y_,N_,Y_,N_,N_,N_,N_,N_,N_,N_,N_,N_,N_,N_,N_,N_] ?_
         refine pu_ HT_.out 6 17 #[Y_,N_,Y_,N_,N_,N_,Y_,N_,N_,N_,N_,N_,N_,N_,N_,N_] ?_
         refine pu_ HT_.out 8 19 #[Y_,N_,Y_,N_,N_,N_,Y_,N_,Y_,N_,N_,N_,N_,N_,N_,N_] ?_
         refine pu_ HT_.out 9 20 #[Y_,N_,Y_,N_,N_,N_,Y_,N_,Y_,Y_,N_,N_,N_,N_,N_,N_] ?_
         refine tk_ HT_.out HW_.out hHeld 1 12 #[Y_,Y_,Y_,N_,N_,N_,Y_,N_,Y_,Y_,N_,N_,N_,N_,N_,N_] ?_
         refine pu_ HT_.out 3 14 #[Y_,Y_,Y_,Y_,N_,N_,Y_,N_,Y_,Y_,N_,N_,N_,N_,N_,N_] ?_
         refine pu_ HT_.out 4 15 #[Y_,Y_,Y_,Y_,Y_,N_,Y_,N_,Y_,Y_,N_,N_,N_,N_,N_,N_] ?_
         refine tk_ HT_.out HW_.out hHeld 5 16 #[Y_,Y_,Y_,Y_,Y_,Y_,Y_,N_,Y_,Y_,N_,N_,N_,N_,N_,N_] ?_
         refine tk_ HT_.out HW_.out hHeld 7 18 #[Y_,Y_,Y_,Y_,Y_,Y_,Y_,Y_,Y_,Y_,N_,N_,N_,N_,N_,N_] ?_
         refine pu_ HT_.out 10 21 #[Y_,Y_,Y_,Y_,Y_,Y_,Y_,Y_,Y_,Y_,Y_,N_,N_,N_,N_,N_] ?_
         refine pu_ HT_.out 11 22 #[Y_,Y_,Y_,Y_,Y_,Y_,Y_,Y_,Y_,Y_,Y_,Y_,N_,N_,N_,N_] ?_
         refine tk_ HT_.out HW_.out hHeld 12 23 #[Y_,Y_,Y_,Y_,Y_,Y_,Y_,Y_,Y_,Y_,Y_,Y_,Y_,N_,N_,N_] ?_
         refine pu_ HT_.out 13 24 #[Y_,Y_,Y_,Y_,Y_,Y_,Y_,Y_,Y_,Y_,Y_,Y_,Y_,Y_,N_,N_] ?_
         refine one_ (i := 14) (N := some 25) #[Y_,Y_,Y_,Y_,Y_,Y_,Y_,Y_,Y_,Y_,Y_,Y_,Y_,Y_,Y_,N_] rfl rfl (one_of HT_.out (by kernel_rfl)) (by decide) (fun K hK => ?_)
         refine goes_ Try.func124 (by kernel_rfl) rfl #[.int .i64 (wrap64 (((rd_T36 l0_1 x8_1).f1) - ((rd_T36 l0_1 (ji7)).f1)))] (by rfl) rfl rfl (by (try simp only [List.map_toArray, List.map_cons, List.map_nil]); first | done | (simp only [hji7]; rfl) | rfl | (simp only [List.length_drop, List.length_take]; rfl)) ?_
         with_reducible refine (impl_absolute.calls (wrap64 (((rd_T36 l0_1 x8_1).f1) - ((rd_T36 l0_1 (ji7)).f1))) t331 _ A10.out).mono ?_
         rintro e w13 ⟨rfl, hb⟩
         refine ⟨_, rfl, ?_⟩
         have n0_ := Aside0.mk (blk_bel BK328.out hb)
         have n1_ := Aside0.mk (cBs_ HB.out hb)
         clear BK328
         clear HB
         have BK328 := n0_
         have HB := n1_
         clear n0_ n1_
         (try clear hb)
         (try clear hb2)
         (try clear hk)
         (try clear hi)
         refine hK.out _ _ ⟨(blk_cell BK328.out 0).trans rfl, (blk_cell BK328.out 1).trans rfl, (bce_ HB.out hw329_0), (bce_ HB.out hw329_1), (bce_ HB.out hw329_2), (bce_ HB.out hw330_0), (bce_ HB.out hw330_1), (bce_ HB.out hw330_2)⟩ (fun hHeld => ?_)
         clear hK K
         refine norm_ (a' := ?_) ?_ ?_
         rotate_left
         ·
          show Act.put _ (some 25) _ = _
          simp only [Act.put, q1_, q2_, q3_, i64_w, i32_w]
          rfl
         refine pu_ HT_.out 15 26 #[Y_,Y_,Y_,Y_,Y_,Y_,Y_,Y_,Y_,Y_,Y_,Y_,Y_,Y_,Y_,Y_] ?_
         refine done_ (done_of HT_.out (by kernel_rfl)) ?_
         try go_wp2
         go_ret
         exact ⟨by first | rfl | (simp [errW_none, errW_some] <;> rfl) | (simp only [← hji7]; first | rfl | (simp [errW_none, errW_some] <;> rfl)) | (simp [*, errW_none, errW_some] <;> rfl), cB_ HB.out⟩
        ·
         rw [if_neg c11] at H
         have c11b0 : decide (1 < t331) = false := decide_eq_false c11
         clear c11
         have H' := Aside0.mk H
         clear H
         try go_wp2
         have n0_ := Aside0.mk (blk_drew BK328.out)
         have n1_ := Aside0.mk (below_drew1 HB.out)
         clear BK328
         clear HB
         have BK328 := n0_
         have HB := n1_
         clear n0_ n1_
         have p329 : 0 ≤ (x8_1 : Int) := of_decide_eq_true (by first | (with_reducible assumption) | assumption)
         have q329 : x8_1 < (l0_1.length : Int) := of_decide_eq_true (by first | (with_reducible assumption) | assumption)
         obtain ⟨ad329, e329, hx329_0, hx329_1, hx329_2⟩ := at_T36 HR0_1.out x8_1 p329 q329
         have hw329_2 := hx329_2
         have hw329_1 := hx329_1
         have hw329_0 := hx329_0
         cases e329
         replace hx329_0 := bce_ HB.out hx329_0
         replace hx329_1 := bce_ HB.out hx329_1
         replace hx329_2 := bce_ HB.out hx329_2
         replace p329 := eq_true p329
         replace q329 := eq_true q329
         have p330 : 0 ≤ ((ji7) : Int) := of_decide_eq_true (by first | (with_reducible assumption) | assumption)
         have q330 : (ji7) < (l0_1.length : Int) := of_decide_eq_true (by first | (with_reducible assumption) | assumption)
         obtain ⟨ad330, e330, hx330_0, hx330_1, hx330_2⟩ := at_T36 HR0_1.out (ji7) p330 q330
         have hw330_2 := hx330_2
         have hw330_1 := hx330_1
         have hw330_0 := hx330_0
         obtain rfl : ad329 = ad330 := (by injection e330)
         replace hx330_0 := bce_ HB.out hx330_0
         replace hx330_1 := bce_ HB.out hx330_1
         replace hx330_2 := bce_ HB.out hx330_2
         replace p330 := eq_true p330
         replace q330 := eq_true q330
         refine start_ (n := 16) (S := fun w' => w'.cell? ⟨gb328, 0, none⟩ = some (.int .i64 a0_0) ∧ w'.cell? ⟨gb328, 1, none⟩ = some (.slice (some ad329) l0_1.length c0_1) ∧ w'.cell? (ad329.add ((x8_1).toNat * 3)) = some (.int .i64 ((rd_T36 l0_1 x8_1).f0)) ∧ w'.cell? ⟨(ad329.add ((x8_1).toNat * 3)).block, (ad329.add ((x8_1).toNat * 3)).off + 1, none⟩ = some (.int .i64 ((rd_T36 l0_1 x8_1).f1)) ∧ w'.cell? ⟨(ad329.add ((x8_1).toNat * 3)).block, (ad329.add ((x8_1).toNat * 3)).off + 2, none⟩ = some (.int .i64 ((rd_T36 l0_1 x8_1).f2)) ∧ w'.cell? (ad329.add (((ji7)).toNat * 3)) = some (.int .i64 ((rd_T36 l0_1 (ji7)).f0)) ∧ w'.cell? ⟨(ad329.add (((ji7)).toNat * 3)).block, (ad329.add (((ji7)).toNat * 3)).off + 1, none⟩ = some (.int .i64 ((rd_T36 l0_1 (ji7)).f1)) ∧ w'.cell? ⟨(ad329.add (((ji7)).toNat * 3)).block, (ad329.add (((ji7)).toNat * 3)).off + 2, none⟩ = some (.int .i64 ((rd_T36 l0_1 (ji7)).f2))) (ds := []) #[N_,N_,N_,N_,N_,N_,N_,N_,N_,N_,N_,N_,N_,N_,N_,N_] (by kernel_rfl) rfl rfl ⟨(blk_cell BK328.out 0).trans rfl, (blk_cell BK328.out 1).trans rfl, (bce_ HB.out hw329_0), (bce_ HB.out hw329_1), (bce_ HB.out hw329_2), (bce_ HB.out hw330_0), (bce_ HB.out hw330_1), (bce_ HB.out hw330_2)⟩ (fun hHeld => ?_); refine with_tabW impl_Mesh_unbalanced.tab4 impl_Mesh_unbalanced.bits4 (fun HT_ HW_ => ?_)
         generalize wr.drew = w14 at BK328 HB hx329_0 hx329_1 hx329_2 hx330_0 hx330_1 hx330_2 hHeld ⊢
         refine pu_ HT_.out 0 11 #[Y_,N_,N_,N_,N_,N_,N_,N_,N_,N_,N_,N_,N_,N_,N_,N_] ?_
         refine pu_ HT_.out 2 13 #[Y_,N_,Y_,N_,N_,N_,N_,N_,N_,N_,N_,N_,N_,N_,N_,N_] ?_
         refine pu_ HT_.out 6 17 #[Y_,N_,Y_,N_,N_,N_,Y_,N_,N_,N_,N_,N_,N_,N_,N_,N_] ?_
         refine pu_ HT_.out 8 19 #[Y_,N_,Y_,N_,N_,N_,Y_,N_,Y_,N_,N_,N_,N_,N_,N_,N_] ?_
         refine pu_ HT_.out 9 20 #[Y_,N_,Y_,N_,N_,N_,Y_,N_,Y_,Y_,N_,N_,N_,N_,N_,N_] ?_
         refine tk_ HT_.out HW_.out hHeld 1 12 #[Y_,Y_,Y_,N_,N_,N_,Y_,N_,Y_,Y_,N_,N_,N_,N_,N_,N_] ?_
         refine pu_ HT_.out 3 14 #[Y_,Y_,Y_,Y_,N_,N_,Y_,N_,Y_,Y_,N_,N_,N_,N_,N_,N_] ?_
         refine pu_ HT_.out 4 15 #[Y_,Y_,Y_,Y_,Y_,N_,Y_,N_,Y_,Y_,N_,N_,N_,N_,N_,N_] ?_
         refine tk_ HT_.out HW_.out hHeld 5 16 #[Y_,Y_,Y_,Y_,Y_,Y_,Y_,N_,Y_,Y_,N_,N_,N_,N_,N_,N_] ?_
         refine tk_ HT_.out HW_.out hHeld 7 18 #[Y_,Y_,Y_,Y_,Y_,Y_,Y_,Y_,Y_,Y_,N_,N_,N_,N_,N_,N_] ?_
         refine pu_ HT_.out 10 21 #[Y_,Y_,Y_,Y_,Y_,Y_,Y_,Y_,Y_,Y_,Y_,N_,N_,N_,N_,N_] ?_
         refine pu_ HT_.out 11 22 #[Y_,Y_,Y_,Y_,Y_,Y_,Y_,Y_,Y_,Y_,Y_,Y_,N_,N_,N_,N_] ?_
         refine tk_ HT_.out HW_.out hHeld 12 23 #[Y_,Y_,Y_,Y_,Y_,Y_,Y_,Y_,Y_,Y_,Y_,Y_,Y_,N_,N_,N_] ?_
         refine pu_ HT_.out 13 24 #[Y_,Y_,Y_,Y_,Y_,Y_,Y_,Y_,Y_,Y_,Y_,Y_,Y_,Y_,N_,N_] ?_
         refine one_ (i := 14) (N := some 25) #[Y_,Y_,Y_,Y_,Y_,Y_,Y_,Y_,Y_,Y_,Y_,Y_,Y_,Y_,Y_,N_] rfl rfl (one_of HT_.out (by kernel_rfl)) (by decide) (fun K hK => ?_)
         refine goes_ Try.func124 (by kernel_rfl) rfl #[.int .i64 (wrap64 (((rd_T36 l0_1 x8_1).f1) - ((rd_T36 l0_1 (ji7)).f1)))] (by rfl) rfl rfl (by (try simp only [List.map_toArray, List.map_cons, List.map_nil]); first | done | (simp only [hji7]; rfl) | rfl | (simp only [List.length_drop, List.length_take]; rfl)) ?_
         with_reducible refine (impl_absolute.calls (wrap64 (((rd_T36 l0_1 x8_1).f1) - ((rd_T36 l0_1 (ji7)).f1))) t331 _ A10.out).mono ?_
         rintro e w15 ⟨rfl, hb⟩
         refine ⟨_, rfl, ?_⟩
         have n0_ := Aside0.mk (blk_bel BK328.out hb)
         have n1_ := Aside0.mk (cBs_ HB.out hb)
         clear BK328
         clear HB
         have BK328 := n0_
         have HB := n1_
         clear n0_ n1_
         (try clear hb)
         (try clear hb2)
         (try clear hk)
         (try clear hi)
         refine hK.out _ _ ⟨(blk_cell BK328.out 0).trans rfl, (blk_cell BK328.out 1).trans rfl, (bce_ HB.out hw329_0), (bce_ HB.out hw329_1), (bce_ HB.out hw329_2), (bce_ HB.out hw330_0), (bce_ HB.out hw330_1), (bce_ HB.out hw330_2)⟩ (fun hHeld => ?_)
         clear hK K
         refine norm_ (a' := ?_) ?_ ?_
         rotate_left
         ·
          show Act.put _ (some 25) _ = _
          simp only [Act.put, q1_, q2_, q3_, i64_w, i32_w]
          rfl
         refine pu_ HT_.out 15 26 #[Y_,Y_,Y_,Y_,Y_,Y_,Y_,Y_,Y_,Y_,Y_,Y_,Y_,Y_,Y_,Y_] ?_
         refine done_ (done_of HT_.out (by kernel_rfl)) ?_
         try go_wp2
         go_roundg k1
         case measure => have := HK1.out; omega
         case rel => exact ⟨(ji7), (by first | rfl | (simp; done) | (simp only [← hji7] <;> (first | rfl | simp)) | (simp [*]; done)), H', ⟨by have := HK1.out; omega⟩, ⟨cb_ BK328.out⟩, ⟨cB_ HB.out⟩⟩
       ·
        rw [if_neg c9] at H
        exact absurd H (by simp)
      ·
       rw [if_neg c8] at H
       exact absurd H (by simp)
     ·
      rw [if_neg c6] at H
      exact absurd H (by simp)
    ·
     rw [if_neg c5] at H
     exact absurd H (by simp)
   ·
    rw [if_neg c4] at H
    have c4b0 : decide (x8_1 < (wrap64 ((l0_1.length : Int) - 1))) = false := decide_eq_false c4
    clear c4
    obtain rfl := Option.some.inj H
    go_wp2
    go_ret
    exact ⟨by first | rfl | (simp [*, errW_none, errW_some] <;> rfl), cB_ HB.out⟩

/-! ### impl_IsBalanced: function 67 -/
def impl_IsBalanced.f (k : Nat) (a0_0 : Int) (l0_1 : List (S36)) : Option (Bool) := (impl_MeshOk.f k a0_0 l0_1).bind fun t333 => (if t333 = true then ((impl_Mesh_unbalanced.f k a0_0 l0_1).bind fun t334 => (some (decide (t334 < 0)))) else (some false))
theorem impl_IsBalanced.mono : ∀ a0 a1 k, LeO (impl_IsBalanced.f k a0 a1) (impl_IsBalanced.f (k + 1) a0 a1) := by
 intro a0 a1 k
 unfold impl_IsBalanced.f
 repeat' first
   | (with_reducible exact impl_MeshOk.mono _ _ _)
   | (with_reducible exact impl_Mesh_unbalanced.mono _ _ _)
   | (with_reducible exact LeO.refl _)
   | (with_reducible exact LeO.none _)
   | (with_reducible refine LeO.ite ?_ ?_)
   | (with_reducible refine LeO.bind ?_ (fun _ => ?_))
   | exact impl_MeshOk.mono _ _ _
   | exact impl_Mesh_unbalanced.mono _ _ _
   | exact LeO.none _
   | refine LeO.ite ?_ ?_
   | refine LeO.bind ?_ (fun _ => ?_)
set_option maxHeartbeats 8000000 in
set_option maxRecDepth 100000 in
theorem impl_IsBalanced.calls (k : Nat) (a0_0 : Int) (A0_1 : Option Addr) (c0_1 : Nat) (l0_1 : List (S36)) (r : Bool) (w : World) (hr0_1 : Kd.C k36 w A0_1 l0_1.length l0_1) (hc0_1 : l0_1.length ≤ c0_1) (h : impl_IsBalanced.f k a0_0 l0_1 = some r) :
  Calls Try.prog 67 #[.agg #[.int .i64 a0_0, .slice A0_1 l0_1.length c0_1]] w fun e w' => e = .returned (.bool r) ∧ Below w.heap.size w w' := by
 have hu26 := Try.underlying26
 have HR0_1 := Aside0.mk hr0_1
 have HC0_1 := Aside0.mk hc0_1
 clear hr0_1 hc0_1
 have HB := Aside0.mk (Below.refl w.heap.size w)
 have H : ((impl_MeshOk.f k a0_0 l0_1).bind fun t333 => (if t333 = true then ((impl_Mesh_unbalanced.f k a0_0 l0_1).bind fun t334 => (some (decide (t334 < 0)))) else (some false))) = some r := h
 clear h
 replace H := Option.bind_eq_some_iff.mp H
 obtain ⟨t333, A20, H⟩ := H
 (try dsimp only at H)
 have A2 := Aside0.mk A20
 clear A20
 by_cases c3 : t333 = true
 ·
  subst c3
  have H1 := H; rw [if_pos rfl] at H1
  clear H
  have H := H1
  clear H1
  replace H := Option.bind_eq_some_iff.mp H
  obtain ⟨t334, A40, H⟩ := H
  replace H : (some (decide (t334 < 0))) = some r := H
  have A4 := Aside0.mk A40
  clear A40
  obtain rfl := Option.some.inj H
  go_enter Try.func67, Try.ntmps67
  go_wp2_with (first | ((with_reducible refine gate_dst (N := 1) rfl ?_); refine bxe_ 1 #[.int .i64 a0_0, .slice A0_1 l0_1.length c0_1] 26 ?_; intro gb332 hg w5 hbox hb; have n0_ := Aside0.mk (bst_ HB.out hb); have n1_ := Aside0.mk (hbox); have n2_ := Aside0.mk (gz_ hg (bsz_ HB.out)); have n3_ := Aside0.mk (gz_ hg (bsz_ HB.out)); clear HB; have HB := n0_; have BK332 := n1_; have GW332 := n2_; have GE332 := n3_; clear n0_ n1_ n2_ n3_; clear hb hbox hg; have hcz6 := cl2_ BK332.out; have hfz6 := fr2_ BK332.out) | ((with_reducible refine gate_callee (f := 69) rfl ?_); refine goesL_ (some 4) rfl rfl Try.func69 (by kernel_rfl) rfl #[.agg #[.int .i64 a0_0, .slice A0_1 l0_1.length c0_1]] rfl (by (try simp only [List.map_toArray, List.map_cons, List.map_nil]); first | done | rfl | (simp only [List.length_drop, List.length_take]; rfl)) ?_; (with_reducible refine (impl_MeshOk.calls k a0_0 _ _ l0_1 true _ ?side1 ?side2 A2.out).mono ?_); (case side1 => exact cC_ HR0_1.out HB.out); (case side2 => exact HC0_1.out); rintro e w7 ⟨rfl, hb⟩; refine ⟨_, rfl, ?_⟩; have n0_ := Aside0.mk (blk_bel BK332.out hb); have n1_ := Aside0.mk (cBs_ HB.out hb); clear BK332; clear HB; have BK332 := n0_; have HB := n1_; clear n0_ n1_; (try clear hb); (try clear hb2); (try clear hk); (try clear hi); have hcz8 := cl2_ BK332.out; have hfz8 := fr2_ BK332.out) | (go_at_call 102; (with_reducible refine (impl_Mesh_unbalanced.calls k a0_0 _ _ l0_1 t334 _ ?side1 ?side2 A4.out).mono ?_); (case side1 => exact cC_ HR0_1.out HB.out); (case side2 => exact HC0_1.out); rintro e w9 ⟨rfl, hb⟩; have n0_ := Aside0.mk (blk_bel BK332.out hb); have n1_ := Aside0.mk (cBs_ HB.out hb); clear BK332; clear HB; have BK332 := n0_; have HB := n1_; clear n0_ n1_; (try clear hb); (try clear hb2); (try clear hk); (try clear hi)))
  go_ret
  exact ⟨by first | rfl | (simp [*, errW_none, errW_some] <;> rfl), cB_ HB.out⟩
 ·
  replace c3 := Bool.eq_false_iff.mpr c3
  subst c3
  have H1 : (some false) = some r := by rw [if_neg (show ¬ (false = true) by decide)] at H; exact H
  clear H
  have H := H1
  clear H1
  obtain rfl := Option.some.inj H
  go_enter Try.func67, Try.ntmps67
  go_wp2_with (first | ((with_reducible refine gate_dst (N := 1) rfl ?_); refine bxe_ 1 #[.int .i64 a0_0, .slice A0_1 l0_1.length c0_1] 26 ?_; intro gb332 hg w10 hbox hb; have n0_ := Aside0.mk (bst_ HB.out hb); have n1_ := Aside0.mk (hbox); have n2_ := Aside0.mk (gz_ hg (bsz_ HB.out)); have n3_ := Aside0.mk (gz_ hg (bsz_ HB.out)); clear HB; have HB := n0_; have BK332 := n1_; have GW332 := n2_; have GE332 := n3_; clear n0_ n1_ n2_ n3_; clear hb hbox hg; have hcz11 := cl2_ BK332.out; have hfz11 := fr2_ BK332.out) | ((with_reducible refine gate_callee (f := 69) rfl ?_); refine goesL_ (some 4) rfl rfl Try.func69 (by kernel_rfl) rfl #[.agg #[.int .i64 a0_0, .slice A0_1 l0_1.length c0_1]] rfl (by (try simp only [List.map_toArray, List.map_cons, List.map_nil]); first | done | rfl | (simp only [List.length_drop, List.length_take]; rfl)) ?_; (with_reducible refine (impl_MeshOk.calls k a0_0 _ _ l0_1 false _ ?side1 ?side2 A2.out).mono ?_); (case side1 => exact cC_ HR0_1.out HB.out); (case side2 => exact HC0_1.out); rintro e w12 ⟨rfl, hb⟩; refine ⟨_, rfl, ?_⟩; have n0_ := Aside0.mk (blk_bel BK332.out hb); have n1_ := Aside0.mk (cBs_ HB.out hb); clear BK332; clear HB; have BK332 := n0_; have HB := n1_; clear n0_ n1_; (try clear hb); (try clear hb2); (try clear hk); (try clear hi)))
  go_ret
  exact ⟨by first | rfl | (simp [*, errW_none, errW_some] <;> rfl), cB_ HB.out⟩


/-! ### slices_ContainsFunc_int_int: function 71 (given) -/
def slices_ContainsFunc_int_int.p (b : Int) : Bool := !(decide (0 ≤ b ∧ b ≤ 1000000))
def slices_ContainsFunc_int_int.f (l0 : List Int) (_ : Unit) : Option Bool := some (l0.any slices_ContainsFunc_int_int.p)
theorem slices_ContainsFunc_int_int.dtrans {a b c : World} (h : Drawn0 a b) (k : Drawn0 b c) : Drawn0 a c := by
  obtain ⟨⟨n, e⟩⟩ := k
  subst e
  exact h.step n
set_option maxHeartbeats 8000000 in
set_option maxRecDepth 100000 in
theorem slices_ContainsFunc_int_int.clo (b : Int) (w : World) :
    Calls Try.prog 110 #[.int .i64 b] w fun e w' => e = .returned (.bool (slices_ContainsFunc_int_int.p b)) ∧ Drawn0 w w' := by
  unfold slices_ContainsFunc_int_int.p
  by_cases h0 : 0 ≤ b
  · by_cases h1 : b ≤ 1000000
    · have d0 : decide (0 ≤ b) = true := decide_eq_true h0
      have d1 : decide (b ≤ 1000000) = true := decide_eq_true h1
      have e0 : decide (0 ≤ b ∧ b ≤ 1000000) = true := decide_eq_true ⟨h0, h1⟩
      rw [e0]
      go_enter Try.func110, Try.ntmps110
      go_wp2
      all_goals (go_ret; exact ⟨rfl, by repeat (first | exact Drawn0.refl _ | apply Drawn0.step)⟩)
    · have d0 : decide (0 ≤ b) = true := decide_eq_true h0
      have d1 : decide (b ≤ 1000000) = false := decide_eq_false h1
      have e0 : decide (0 ≤ b ∧ b ≤ 1000000) = false := decide_eq_false (fun h => h1 h.2)
      rw [e0]
      go_enter Try.func110, Try.ntmps110
      go_wp2
      all_goals (go_ret; exact ⟨rfl, by repeat (first | exact Drawn0.refl _ | apply Drawn0.step)⟩)
  · have d0 : decide (0 ≤ b) = false := decide_eq_false h0
    have e0 : decide (0 ≤ b ∧ b ≤ 1000000) = false := decide_eq_false (fun h => h0 h.1)
    rw [e0]
    go_enter Try.func110, Try.ntmps110
    go_wp2
    all_goals (go_ret; exact ⟨rfl, by repeat (first | exact Drawn0.refl _ | apply Drawn0.step)⟩)
set_option maxHeartbeats 8000000 in
set_option maxRecDepth 100000 in
theorem slices_ContainsFunc_int_int.idx (A : Option Addr) (c : Nat) (l : List Int) (w : World) (hr : Kd.C (Kd.int .i64) w A l.length l) (hcc : l.length ≤ c) :
    Calls Try.prog 108 #[.slice A l.length c, .func (.func 110) #[] #[]] w fun e w' => ∃ r : Int, e = .returned (.int .i64 r) ∧ decide (0 ≤ r) = l.any slices_ContainsFunc_int_int.p ∧ Drawn0 w w' := by
  have eg : ∀ args w, (callFunc 110 args).run Try.prog w = .ok (.enter 110 args) w := Go.Proofs.enters_of Try.func110 (by kernel_rfl) rfl
  have hlen := hr.2.1
  have HR := Aside0.mk hr
  clear hr hcc
  go_enter Try.func108, Try.ntmps108
  go_wp2
  go_loopg [5, 8] l.length (fun gg _ v8 wr => ∃ kk : Nat, kk ≤ l.length ∧ l.length - kk ≤ gg ∧ v8 = .int .i64 kk ∧ Aside0 (Drawn0 w wr) ∧ Aside0 ((l.drop kk).any slices_ContainsFunc_int_int.p = l.any slices_ContainsFunc_int_int.p))
  case atStart => exact ⟨0, Nat.zero_le _, by omega, rfl, ⟨by repeat (first | exact Drawn0.refl _ | apply Drawn0.step)⟩, ⟨rfl⟩⟩
  case round =>
    obtain ⟨kk, hkk, hg, rfl, HB, HA⟩ := hrel
    by_cases hlt : kk < l.length
    · have hltz : (kk : Int) < (l.length : Int) := by omega
      obtain ⟨ad, ea, x0⟩ := Kd.at_int HR.out (kk : Int) (by omega) hltz
      subst ea
      have hrd : rd l (kk : Int) = l[kk] := by unfold rd; simp [hlt]
      have HA2 := HA.out
      rw [List.drop_eq_getElem_cons hlt, List.any_cons] at HA2
      rw [hrd] at x0
      generalize l[kk] = y at x0 HA2
      have HN := Aside0.mk HA2
      clear HA HA2 hrd
      have y0 := pw_cell_below (Drawn0.below HB.out) x0
      rw [Int.toNat_natCast] at y0
      clear x0
      have hcall := Aside0.mk (slices_ContainsFunc_int_int.clo y wr)
      generalize slices_ContainsFunc_int_int.p y = b at hcall HN
      cases b with
      | true =>
        go_wp2_with (go_at_fn 110; refine hcall.out.mono ?_; rintro e w' ⟨rfl, hb'⟩)
        go_wp2
        go_ret
        exact ⟨kk, rfl, by have := HN.out; rw [Bool.true_or] at this; rw [← this]; exact decide_eq_true (by omega), slices_ContainsFunc_int_int.dtrans HB.out hb'⟩
      | false =>
        go_wp2_with (go_at_fn 110; refine hcall.out.mono ?_; rintro e w' ⟨rfl, hb'⟩)
        go_roundg (l.length - (kk + 1))
        rotate_left
        · omega
        · exact ⟨kk + 1, by omega, by omega, by simp, ⟨slices_ContainsFunc_int_int.dtrans HB.out hb'⟩, ⟨by have := HN.out; rw [Bool.false_or] at this; exact this⟩⟩
    · have hkl : kk = l.length := by omega
      have HA2 := HA.out
      rw [hkl, List.drop_length] at HA2
      have hltz : ¬ (kk : Int) < (l.length : Int) := by omega
      go_wp2
      go_ret
      exact ⟨-1, rfl, by rw [← HA2]; rfl, HB.out⟩
set_option maxHeartbeats 8000000 in
set_option maxRecDepth 100000 in
theorem slices_ContainsFunc_int_int.calls (A0 : Option Addr) (c0 : Nat) (l0 : List Int) (u0 : Unit) (r : Bool) (w : World) (hr0 : Kd.C (Kd.int .i64) w A0 l0.length l0) (hc0 : l0.length ≤ c0) (h : slices_ContainsFunc_int_int.f l0 u0 = some r) :
    Calls Try.prog 71 #[.slice A0 l0.length c0, .func (.func 110) #[] #[]] w fun e w' => e = .returned (.bool r) ∧ Drawn0 w w' := by
  obtain rfl := Option.some.inj h
  have HR := Aside0.mk hr0
  clear hr0 h
  go_enter Try.func71, Try.ntmps71
  go_wp2_with (
    go_at_call 108; refine (slices_ContainsFunc_int_int.idx A0 c0 l0 _ HR.out hc0).mono ?_
    rintro e w' ⟨q, rfl, hr, hb⟩)
  go_wp2
  go_ret
  exact ⟨by simp [← hr], hb⟩
set_option maxHeartbeats 8000000 in
set_option maxRecDepth 100000 in
theorem slices_ContainsFunc_int_int.clo2 (b : Int) (w : World) :
    Calls Try.prog 72 #[.int .i64 b] w fun e w' => e = .returned (.bool (slices_ContainsFunc_int_int.p b)) ∧ Drawn0 w w' := by
  unfold slices_ContainsFunc_int_int.p
  by_cases h0 : 0 ≤ b
  · by_cases h1 : b ≤ 1000000
    · have d0 : decide (0 ≤ b) = true := decide_eq_true h0
      have d1 : decide (b ≤ 1000000) = true := decide_eq_true h1
      have e0 : decide (0 ≤ b ∧ b ≤ 1000000) = true := decide_eq_true ⟨h0, h1⟩
      rw [e0]
      go_enter Try.func72, Try.ntmps72
      go_wp2
      all_goals (go_ret; exact ⟨rfl, by repeat (first | exact Drawn0.refl _ | apply Drawn0.step)⟩)
    · have d0 : decide (0 ≤ b) = true := decide_eq_true h0
      have d1 : decide (b ≤ 1000000) = false := decide_eq_false h1
      have e0 : decide (0 ≤ b ∧ b ≤ 1000000) = false := decide_eq_false (fun h => h1 h.2)
      rw [e0]
      go_enter Try.func72, Try.ntmps72
      go_wp2
      all_goals (go_ret; exact ⟨rfl, by repeat (first | exact Drawn0.refl _ | apply Drawn0.step)⟩)
  · have d0 : decide (0 ≤ b) = false := decide_eq_false h0
    have e0 : decide (0 ≤ b ∧ b ≤ 1000000) = false := decide_eq_false (fun h => h0 h.1)
    rw [e0]
    go_enter Try.func72, Try.ntmps72
    go_wp2
    all_goals (go_ret; exact ⟨rfl, by repeat (first | exact Drawn0.refl _ | apply Drawn0.step)⟩)
set_option maxHeartbeats 8000000 in
set_option maxRecDepth 100000 in
theorem slices_ContainsFunc_int_int.idx2 (A : Option Addr) (c : Nat) (l : List Int) (w : World) (hr : Kd.C (Kd.int .i64) w A l.length l) (hcc : l.length ≤ c) :
    Calls Try.prog 108 #[.slice A l.length c, .func (.func 72) #[] #[]] w fun e w' => ∃ r : Int, e = .returned (.int .i64 r) ∧ decide (0 ≤ r) = l.any slices_ContainsFunc_int_int.p ∧ Drawn0 w w' := by
  have eg : ∀ args w, (callFunc 72 args).run Try.prog w = .ok (.enter 72 args) w := Go.Proofs.enters_of Try.func72 (by kernel_rfl) rfl
  have hlen := hr.2.1
  have HR := Aside0.mk hr
  clear hr hcc
  go_enter Try.func108, Try.ntmps108
  go_wp2
  go_loopg [5, 8] l.length (fun gg _ v8 wr => ∃ kk : Nat, kk ≤ l.length ∧ l.length - kk ≤ gg ∧ v8 = .int .i64 kk ∧ Aside0 (Drawn0 w wr) ∧ Aside0 ((l.drop kk).any slices_ContainsFunc_int_int.p = l.any slices_ContainsFunc_int_int.p))
  case atStart => exact ⟨0, Nat.zero_le _, by omega, rfl, ⟨by repeat (first | exact Drawn0.refl _ | apply Drawn0.step)⟩, ⟨rfl⟩⟩
  case round =>
    obtain ⟨kk, hkk, hg, rfl, HB, HA⟩ := hrel
    by_cases hlt : kk < l.length
    · have hltz : (kk : Int) < (l.length : Int) := by omega
      obtain ⟨ad, ea, x0⟩ := Kd.at_int HR.out (kk : Int) (by omega) hltz
      subst ea
      have hrd : rd l (kk : Int) = l[kk] := by unfold rd; simp [hlt]
      have HA2 := HA.out
      rw [List.drop_eq_getElem_cons hlt, List.any_cons] at HA2
      rw [hrd] at x0
      generalize l[kk] = y at x0 HA2
      have HN := Aside0.mk HA2
      clear HA HA2 hrd
      have y0 := pw_cell_below (Drawn0.below HB.out) x0
      rw [Int.toNat_natCast] at y0
      clear x0
      have hcall := Aside0.mk (slices_ContainsFunc_int_int.clo2 y wr)
      generalize slices_ContainsFunc_int_int.p y = b at hcall HN
      cases b with
      | true =>
        go_wp2_with (go_at_fn 72; refine hcall.out.mono ?_; rintro e w' ⟨rfl, hb'⟩)
        go_wp2
        go_ret
        exact ⟨kk, rfl, by have := HN.out; rw [Bool.true_or] at this; rw [← this]; exact decide_eq_true (by omega), slices_ContainsFunc_int_int.dtrans HB.out hb'⟩
      | false =>
        go_wp2_with (go_at_fn 72; refine hcall.out.mono ?_; rintro e w' ⟨rfl, hb'⟩)
        go_roundg (l.length - (kk + 1))
        rotate_left
        · omega
        · exact ⟨kk + 1, by omega, by omega, by simp, ⟨slices_ContainsFunc_int_int.dtrans HB.out hb'⟩, ⟨by have := HN.out; rw [Bool.false_or] at this; exact this⟩⟩
    · have hkl : kk = l.length := by omega
      have HA2 := HA.out
      rw [hkl, List.drop_length] at HA2
      have hltz : ¬ (kk : Int) < (l.length : Int) := by omega
      go_wp2
      go_ret
      exact ⟨-1, rfl, by rw [← HA2]; rfl, HB.out⟩
set_option maxHeartbeats 8000000 in
set_option maxRecDepth 100000 in
theorem slices_ContainsFunc_int_int.calls2 (A0 : Option Addr) (c0 : Nat) (l0 : List Int) (u0 : Unit) (r : Bool) (w : World) (hr0 : Kd.C (Kd.int .i64) w A0 l0.length l0) (hc0 : l0.length ≤ c0) (h : slices_ContainsFunc_int_int.f l0 u0 = some r) :
    Calls Try.prog 71 #[.slice A0 l0.length c0, .func (.func 72) #[] #[]] w fun e w' => e = .returned (.bool r) ∧ Drawn0 w w' := by
  obtain rfl := Option.some.inj h
  have HR := Aside0.mk hr0
  clear hr0 h
  go_enter Try.func71, Try.ntmps71
  go_wp2_with (
    go_at_call 108; refine (slices_ContainsFunc_int_int.idx2 A0 c0 l0 _ HR.out hc0).mono ?_
    rintro e w' ⟨q, rfl, hr, hb⟩)
  go_wp2
  go_ret
  exact ⟨by simp [← hr], hb⟩

/-! ### impl_sum: function 77 -/
def impl_sum.l0 : Nat → Int → List Int → Int → Int → Option (Int)
 | 0, _, _, _, _ => none
 | k + 1, x3, x6, x7, x8 => if x8 < x7 then (if 0 ≤ x8 then (if x8 < (x6.length : Int) then (impl_sum.l0 k (wrap64 (x3 + (rd x6 x8))) x6 x7 (wrap64 (x8 + 1))) else (none)) else (none)) else (some x3)
def impl_sum.f (k : Nat) (l0 : List Int) : Option (Int) := impl_sum.l0 k 0 l0 (l0.length : Int) 0
theorem impl_sum.mono_l : ∀ k, (∀ y0 y1 y2 y3, LeO (impl_sum.l0 k y0 y1 y2 y3) (impl_sum.l0 (k + 1) y0 y1 y2 y3))
 | 0 => fun _ _ _ _ r h => by simp [impl_sum.l0] at h
 | k + 1 => by
  have ih0 := impl_sum.mono_l k
  ·
   intro y0 y1 y2 y3
   unfold impl_sum.l0
   repeat' first
   | (with_reducible exact ih0 _ _ _ _)
   | (with_reducible exact LeO.refl _)
   | (with_reducible exact LeO.none _)
   | (with_reducible refine LeO.ite ?_ ?_)
   | (with_reducible refine LeO.bind ?_ (fun _ => ?_))
   | exact ih0 _ _ _ _
   | exact LeO.none _
   | refine LeO.ite ?_ ?_
   | refine LeO.bind ?_ (fun _ => ?_)
theorem impl_sum.mono : ∀ a0 k, LeO (impl_sum.f k a0) (impl_sum.f (k + 1) a0) := by
 intro a0 k
 have ih0 := impl_sum.mono_l k
 unfold impl_sum.f
 repeat' first
   | (with_reducible exact ih0 _ _ _ _)
   | (with_reducible exact LeO.refl _)
   | (with_reducible exact LeO.none _)
   | (with_reducible refine LeO.ite ?_ ?_)
   | (with_reducible refine LeO.bind ?_ (fun _ => ?_))
   | exact ih0 _ _ _ _
   | exact LeO.none _
   | refine LeO.ite ?_ ?_
   | refine LeO.bind ?_ (fun _ => ?_)
set_option maxHeartbeats 8000000 in
set_option maxRecDepth 100000 in
theorem impl_sum.calls (k : Nat) (A0 : Option Addr) (c0 : Nat) (l0 : List Int) (r : Int) (w : World) (hr0 : Kd.C (Kd.int .i64) w A0 l0.length l0) (hc0 : l0.length ≤ c0) (h : impl_sum.f k l0 = some r) :
  Calls Try.prog 77 #[.slice A0 l0.length c0] w fun e w' => e = .returned (.int .i64 r) ∧ Drawn0 w w' := by
 have HR0 := Aside0.mk hr0
 have HC0 := Aside0.mk hc0
 clear hr0 hc0
 have H : (impl_sum.l0 k 0 l0 (l0.length : Int) 0) = some r := h
 clear h
 have H' := Aside0.mk H
 clear H
 go_enter Try.func77, Try.ntmps77
 go_wp2
 go_loopg [3, 8] k (fun kq v3 v8 w' => ∃ (x3_1 : Int) (x8_1 : Int), v3 = .int .i64 x3_1 ∧ v8 = .int .i64 x8_1 ∧ Aside0 (impl_sum.l0 kq x3_1 l0 (l0.length : Int) x8_1 = some r) ∧ Aside0 (kq ≤ k) ∧ Drawn0 w w')
 case atStart => exact ⟨(0), (0), (by first | rfl | (simp; done) | (simp [*]; done)), (by first | rfl | (simp; done) | (simp [*]; done)), H', ⟨Nat.le_refl _⟩, by repeat (first | exact Drawn0.refl _ | apply Drawn0.step)⟩
 case round =>
  clear H'
  obtain ⟨x3_1, x8_1, rfl, rfl, HA, HK1, ⟨m1, rfl⟩⟩ := hrel
  cases gk with
  | zero => exact absurd HA.out (by simp [impl_sum.l0])
  | succ k1 =>
   have H := HA.out
   clear HA
   simp only [impl_sum.l0] at H
   by_cases c2 : x8_1 < (l0.length : Int)
   ·
    rw [if_pos c2] at H
    have c2b0 : decide (x8_1 < (l0.length : Int)) = true := decide_eq_true c2
    clear c2
    by_cases c3 : 0 ≤ x8_1
    ·
     rw [if_pos c3] at H
     have c3b0 : decide (0 ≤ x8_1) = true := decide_eq_true c3
     clear c3
     by_cases c4 : x8_1 < (l0.length : Int)
     ·
      rw [if_pos c4] at H
      have c4b0 : decide (x8_1 < (l0.length : Int)) = true := decide_eq_true c4
      clear c4
      have H' := Aside0.mk H
      clear H
      have p335 : 0 ≤ (x8_1 : Int) := of_decide_eq_true (by first | (with_reducible assumption) | assumption)
      have q335 : x8_1 < (l0.length : Int) := of_decide_eq_true (by first | (with_reducible assumption) | assumption)
      obtain ⟨ad335, e335, hx335_0⟩ := Kd.at_int HR0.out x8_1 p335 q335
      cases e335
      replace p335 := eq_true p335
      replace q335 := eq_true q335
      go_wp2
      go_roundg k1
      case measure => have := HK1.out; omega
      case rel => exact ⟨(wrap64 (x3_1 + (rd l0 x8_1))), (wrap64 (x8_1 + 1)), (by first | rfl | (simp; done) | (simp [*]; done)), (by first | rfl | (simp; done) | (simp [*]; done)), H', ⟨by have := HK1.out; omega⟩, by repeat (first | exact Drawn0.refl _ | apply Drawn0.step)⟩
     ·
      rw [if_neg c4] at H
      exact absurd H (by simp)
    ·
     rw [if_neg c3] at H
     exact absurd H (by simp)
   ·
    rw [if_neg c2] at H
    have c2b0 : decide (x8_1 < (l0.length : Int)) = false := decide_eq_false c2
    clear c2
    obtain rfl := Option.some.inj H
    go_wp2
    go_ret
    exact ⟨by first | rfl | (simp; done) | (simp [*]; done), by repeat (first | exact Drawn0.refl _ | apply Drawn0.step)⟩

end Go.Proofs.Ytbkkehjhfgocfaa.PFnTransferred
