/- Written by this repo's own copy of a print: plain functions beneath a law, and the proof that the program computes them; no condition. -/
import Derived.Test.YtbkkehjhfgocfaaPFnExactCoarsenStatex0
import Derived.Test.YtbkkehjhfgocfaaPFnExactCoarsenStatex5
import Derived.Test.YtbkkehjhfgocfaaPFnExactCoarsenStatex8
namespace Go.Proofs.Ytbkkehjhfgocfaa.PFnExactCoarsenState
open Go.RowKit Go.Proofs.YtbkkehjhfgocfaaW.PrintWords Go.Proofs.YtbkkehjhfgocfaaW.PrintLast Go.Proofs.YtbkkehjhfgocfaaW.PrintMore
attribute [local go_sem] max2_int min2_int max_two min_two max_three min_three max_four min_four   -- for this text's walks alone
set_option linter.unusedVariables false
set_option linter.unusedSimpArgs false

def spec_ParentOf.f (a0_0 : Int) (a0_1 : Int) (a0_2 : Int) : Option (Int × Int × Int × Bool) := (spec_IdOk.f a0_0 a0_1 a0_2).bind fun t162 => (if t162 = true then (if a0_1 = 0 then (some (0, 0, 0, false)) else (some (a0_0, wrap64 (a0_1 - 1), wrap64 (Int.tdiv a0_2 2), true))) else (some (0, 0, 0, false)))
set_option maxHeartbeats 8000000 in
set_option maxRecDepth 100000 in
theorem spec_ParentOf.calls (a0_0 : Int) (a0_1 : Int) (a0_2 : Int) (r1 : Int) (r2 : Int) (r3 : Int) (r4 : Bool) (w : World) (h : spec_ParentOf.f a0_0 a0_1 a0_2 = some (r1, r2, r3, r4)) :
  Calls Try.prog 122 #[.agg #[.int .i64 a0_0, .int .i64 a0_1, .int .i64 a0_2]] w fun e w' => e = .returned (.tuple #[.agg #[.int .i64 r1, .int .i64 r2, .int .i64 r3], .bool r4]) ∧ Below w.heap.size w w' := by
  have hu36 := Try.underlying36
  unfold spec_ParentOf.f at h
  obtain ⟨o, hp, h⟩ := Option.bind_eq_some_iff.1 h
  have key : (o = false ∧ 0 = r1 ∧ 0 = r2 ∧ 0 = r3 ∧ false = r4) ∨ (o = true ∧ (a0_1 == 0) = true ∧ 0 = r1 ∧ 0 = r2 ∧ 0 = r3 ∧ false = r4) ∨ (o = true ∧ (a0_1 == 0) = false ∧ a0_0 = r1 ∧ wrap64 (a0_1 - 1) = r2 ∧ wrap64 (Int.tdiv a0_2 2) = r3 ∧ true = r4) := by
    revert h
    cases o <;> (by_cases c : a0_1 = 0) <;> simp [c]
  have HP := Aside0.mk hp
  clear h hp
  rcases key with ⟨rfl, rfl, rfl, rfl, rfl⟩ | ⟨rfl, c, rfl, rfl, rfl, rfl⟩ | ⟨rfl, c, rfl, rfl, rfl, rfl⟩
  all_goals
    go_enter Try.func122, Try.ntmps122
    go_wp2_with (first
     | ((with_reducible refine gate_dst (N := 1) rfl ?_); refine box_event ?hg (N := 1) ?hd (cs := #[.int .i64 a0_0, .int .i64 a0_1, .int .i64 a0_2]) (t := 36) ?hr ?_; (case hd => rfl); (case hg => rfl); (case hr => first | (go_simp; done) | (go_simp; rfl)); intro gA hg wZ hbox hb; have GEA := Aside0.mk (by rw [hg]; exact Nat.le_refl _ : w.heap.size ≤ gA); have BA := Aside0.mk hbox; have HB := Aside0.mk hb; clear hb hbox hg; have hzA := cells3 BA.out)
     | ((with_reducible refine gate_dst (N := 2) rfl ?_); refine box_event ?hg (N := 2) ?hd (cs := #[.int .i64 0, .int .i64 0, .int .i64 0]) (t := 36) ?hr ?_; (case hd => rfl); (case hg => rfl); (case hr => first | (go_simp; done) | (go_simp; rfl)); intro gR hg w_2 hbox hb; have GER := Aside0.mk (by rw [hg]; exact HB.out.size : w.heap.size ≤ gR); have NAR := Aside0.mk (by rw [hg]; exact Nat.ne_of_lt (blk_lt BA.out) : gA ≠ gR); have NRA := Aside0.mk (Ne.symm NAR.out); have nAR := NAR.out; have nRA := NRA.out; replace BA := Aside0.mk (blk_below BA.out hb); replace HB := Aside0.mk (below_step HB.out hb); clear hzA hb hg; have BR := Aside0.mk hbox; clear hbox; have hzA := cells3 BA.out; have hzR := cells3 BR.out)
     | ((with_reducible refine gate_dst (N := 5) rfl ?_); refine goesL_ (some 5) rfl rfl Try.func93 (by kernel_rfl) rfl #[.agg #[.int .i64 a0_0, .int .i64 a0_1, .int .i64 a0_2]] rfl (by first | rfl | (simp only [List.map_toArray, List.map_cons, List.map_nil]; rfl)) ?_; refine (spec_IdOk.calls a0_0 a0_1 a0_2 _ _ HP.out).mono ?_; rintro e w5 ⟨rfl, hb⟩; refine ⟨_, rfl, ?_⟩; replace BA := Aside0.mk (blk_below BA.out hb); replace BR := Aside0.mk (blk_below BR.out hb); replace HB := Aside0.mk (below_step HB.out hb); have hf := free3 BR.out; clear hzA hzR hb; have hzA := cells3 BA.out; have hzR := cells3 BR.out))
    first
    | (refine bodyPost_ret (results_ct rfl _ _ gR 36 #[.int .i64 0, .int .i64 0, .int .i64 0] (0, 0) _ rfl (set3_here BR.out _ _ _) Try.underlying36 rfl (by kernel_rfl)) rfl ?_; exact ⟨rfl, set3_below HB.out GER.out⟩)
    | (refine bodyPost_ret (results_ct rfl _ _ gR 36 #[.int .i64 a0_0, .int .i64 (wrap64 (a0_1 - 1)), .int .i64 (wrap64 (Int.tdiv a0_2 2))] (0, 0) _ rfl (set3_here BR.out _ _ _) Try.underlying36 rfl (by kernel_rfl)) rfl ?_; exact ⟨rfl, set3_below HB.out GER.out⟩)
def spec_l06Merge.f (a0_0 : Int) (l0_1 : List (S36)) (a1 : Int) : Option (Int × (List (S36))) := if 0 ≤ a1 then (if a1 < (l0_1.length : Int) then ((spec_ParentOf.f ((rd_T36 l0_1 a1).f0) ((rd_T36 l0_1 a1).f1) ((rd_T36 l0_1 a1).f2)).bind fun bt335 => ((some (([] : List (S36)) : List (S36))).bind fun y340 => (if a1 ≤ (l0_1.length : Int) then ((some (l0_1.take (a1 : Int).toNat : List (S36))).bind fun y343 => (if y340.length + y343.length < 5864062014805 then ((some (y340 ++ y343 : List (S36))).bind fun y347 => (if y347.length < 5864062014805 then ((some (y347 ++ [(⟨bt335.1, bt335.2.1, bt335.2.2.1⟩ : S36)] : List (S36))).bind fun y350 => (if 0 ≤ (wrap64 (a1 + 2)) then (if (wrap64 (a1 + 2)) ≤ (l0_1.length : Int) then ((some (l0_1.drop ((wrap64 (a1 + 2)) : Int).toNat : List (S36))).bind fun y353 => (if y350.length + y353.length < 5864062014805 then (some (a0_0, (y350 ++ y353))) else (none))) else (none)) else (none))) else (none))) else (none))) else (none)))) else (none)) else (none)
def spec_l06Merge.T4 : Bool × List (List Nat × List Nat) := (true, [([], []), ([0], [0]), ([], []), ([], []), ([3], [3]), ([], []), ([5], [5]), ([4, 6], [4, 6]), ([2, 7], [2, 7]), ([1, 8], [1, 8]), ([9, 8, 0, 1, 2, 3, 4, 5, 6, 7, 8, 9], [9])])
def spec_l06Merge.B4 : List Nat := [0, 1, 0, 0, 8, 0, 32, 120, 252, 511, 1023]
theorem spec_l06Merge.tab4 : rtab .any (opsOf Try.f97 4) = spec_l06Merge.T4 := by kernel_rfl
theorem spec_l06Merge.bits4 : waitsOk spec_l06Merge.T4.2 spec_l06Merge.B4 = true := by kernel_rfl
set_option maxHeartbeats 8000000 in
set_option maxRecDepth 100000 in
theorem spec_l06Merge.calls (a0_0 : Int) (A0_1 : Option Addr) (c0_1 : Nat) (l0_1 : List (S36)) (a1 : Int) (r1 : Int) (r2 : List (S36)) (w : World) (hr0_1 : Kd.C k36 w A0_1 l0_1.length l0_1) (hc0_1 : l0_1.length ≤ c0_1) (h : spec_l06Merge.f a0_0 l0_1 a1 = some (r1, r2)) :
  Calls Try.prog 97 #[.agg #[.int .i64 a0_0, .slice A0_1 l0_1.length c0_1], .int .i64 a1] w fun e w' => ∃ v1_ : Value, e = .returned (.agg #[.int .i64 r1, v1_]) ∧ Kd.R k36 36 w' w.heap.size (fun _ => True) v1_ r2 ∧ Below w.heap.size w w' := by
 have hu26 := Try.underlying26
 have hu36 := Try.underlying36
 have HR0_1 := Aside0.mk hr0_1
 have HC0_1 := Aside0.mk hc0_1
 clear hr0_1 hc0_1
 have HB := Aside0.mk (Below.refl w.heap.size w)
 have H : (if 0 ≤ a1 then (if a1 < (l0_1.length : Int) then ((spec_ParentOf.f ((rd_T36 l0_1 a1).f0) ((rd_T36 l0_1 a1).f1) ((rd_T36 l0_1 a1).f2)).bind fun bt335 => ((some (([] : List (S36)) : List (S36))).bind fun y340 => (if a1 ≤ (l0_1.length : Int) then ((some (l0_1.take (a1 : Int).toNat : List (S36))).bind fun y343 => (if y340.length + y343.length < 5864062014805 then ((some (y340 ++ y343 : List (S36))).bind fun y347 => (if y347.length < 5864062014805 then ((some (y347 ++ [(⟨bt335.1, bt335.2.1, bt335.2.2.1⟩ : S36)] : List (S36))).bind fun y350 => (if 0 ≤ (wrap64 (a1 + 2)) then (if (wrap64 (a1 + 2)) ≤ (l0_1.length : Int) then ((some (l0_1.drop ((wrap64 (a1 + 2)) : Int).toNat : List (S36))).bind fun y353 => (if y350.length + y353.length < 5864062014805 then (some (a0_0, (y350 ++ y353))) else (none))) else (none)) else (none))) else (none))) else (none))) else (none)))) else (none)) else (none)) = some (r1, r2) := h
 clear h
 by_cases c3 : 0 ≤ a1
 ·
  rw [if_pos c3] at H
  have c3b0 : decide (0 ≤ a1) = true := decide_eq_true c3
  clear c3
  by_cases c4 : a1 < (l0_1.length : Int)
  ·
   rw [if_pos c4] at H
   have c4b0 : decide (a1 < (l0_1.length : Int)) = true := decide_eq_true c4
   clear c4
   replace H := Option.bind_eq_some_iff.mp H
   obtain ⟨⟨t335, t336, t337, t338⟩, A50, H⟩ := H
   (try dsimp only at H)
   have A5 := Aside0.mk A50
   clear A50
   obtain ⟨y340, hy340⟩ : ∃ y_ : List (S36), y_ = (([] : List (S36))) := ⟨_, rfl⟩
   replace H : (if a1 ≤ (l0_1.length : Int) then ((some (l0_1.take (a1 : Int).toNat : List (S36))).bind fun y343 => (if y340.length + y343.length < 5864062014805 then ((some (y340 ++ y343 : List (S36))).bind fun y347 => (if y347.length < 5864062014805 then ((some (y347 ++ [(⟨t335, t336, t337⟩ : S36)] : List (S36))).bind fun y350 => (if 0 ≤ (wrap64 (a1 + 2)) then (if (wrap64 (a1 + 2)) ≤ (l0_1.length : Int) then ((some (l0_1.drop ((wrap64 (a1 + 2)) : Int).toNat : List (S36))).bind fun y353 => (if y350.length + y353.length < 5864062014805 then (some (a0_0, (y350 ++ y353))) else (none))) else (none)) else (none))) else (none))) else (none))) else (none)) = some (r1, r2) := by first | (rw [hy340]; with_reducible exact H) | (have H2_ := (Option.bind_some _ _).symm.trans H; rw [hy340]; with_reducible exact H2_) | (have H2_ := (Option.bind_some _ _).symm.trans H; with_reducible exact H2_) | with_reducible exact H | (rw [hy340]; exact H) | exact H
   have Ny340 := Aside0.mk hy340
   clear hy340
   have c6b0 := eq_true (of_decide_eq_true (by first | (with_reducible assumption) | assumption) : 0 ≤ a1)
   by_cases c7 : a1 ≤ (l0_1.length : Int)
   ·
    rw [if_pos c7] at H
    have c7b0 := eq_true c7
    have c7b1 : decide (a1 ≤ (l0_1.length : Int)) = true := decide_eq_true c7
    clear c7
    obtain ⟨y343, hy343⟩ : ∃ y_ : List (S36), y_ = (l0_1.take (a1 : Int).toNat) := ⟨_, rfl⟩
    replace H : (if y340.length + y343.length < 5864062014805 then ((some (y340 ++ y343 : List (S36))).bind fun y347 => (if y347.length < 5864062014805 then ((some (y347 ++ [(⟨t335, t336, t337⟩ : S36)] : List (S36))).bind fun y350 => (if 0 ≤ (wrap64 (a1 + 2)) then (if (wrap64 (a1 + 2)) ≤ (l0_1.length : Int) then ((some (l0_1.drop ((wrap64 (a1 + 2)) : Int).toNat : List (S36))).bind fun y353 => (if y350.length + y353.length < 5864062014805 then (some (a0_0, (y350 ++ y353))) else (none))) else (none)) else (none))) else (none))) else (none)) = some (r1, r2) := by first | (rw [hy343]; with_reducible exact H) | (have H2_ := (Option.bind_some _ _).symm.trans H; rw [hy343]; with_reducible exact H2_) | (have H2_ := (Option.bind_some _ _).symm.trans H; with_reducible exact H2_) | with_reducible exact H | (rw [hy343]; exact H) | exact H
    have Ny343 := Aside0.mk hy343
    clear hy343
    by_cases c8 : y340.length + y343.length < 5864062014805
    ·
     rw [if_pos c8] at H
     have LMc8 := Aside0.mk c8
     clear c8
     obtain ⟨y347, hy347⟩ : ∃ y_ : List (S36), y_ = (y340 ++ y343) := ⟨_, rfl⟩
     replace H : (if y347.length < 5864062014805 then ((some (y347 ++ [(⟨t335, t336, t337⟩ : S36)] : List (S36))).bind fun y350 => (if 0 ≤ (wrap64 (a1 + 2)) then (if (wrap64 (a1 + 2)) ≤ (l0_1.length : Int) then ((some (l0_1.drop ((wrap64 (a1 + 2)) : Int).toNat : List (S36))).bind fun y353 => (if y350.length + y353.length < 5864062014805 then (some (a0_0, (y350 ++ y353))) else (none))) else (none)) else (none))) else (none)) = some (r1, r2) := by first | (rw [hy347]; with_reducible exact H) | (have H2_ := (Option.bind_some _ _).symm.trans H; rw [hy347]; with_reducible exact H2_) | (have H2_ := (Option.bind_some _ _).symm.trans H; with_reducible exact H2_) | with_reducible exact H | (rw [hy347]; exact H) | exact H
     have Ny347 := Aside0.mk hy347
     clear hy347
     by_cases c9 : y347.length < 5864062014805
     ·
      rw [if_pos c9] at H
      have LMc9 := Aside0.mk c9
      clear c9
      obtain ⟨y350, hy350⟩ : ∃ y_ : List (S36), y_ = (y347 ++ [(⟨t335, t336, t337⟩ : S36)]) := ⟨_, rfl⟩
      replace H : (if 0 ≤ (wrap64 (a1 + 2)) then (if (wrap64 (a1 + 2)) ≤ (l0_1.length : Int) then ((some (l0_1.drop ((wrap64 (a1 + 2)) : Int).toNat : List (S36))).bind fun y353 => (if y350.length + y353.length < 5864062014805 then (some (a0_0, (y350 ++ y353))) else (none))) else (none)) else (none)) = some (r1, r2) := by first | (rw [hy350]; with_reducible exact H) | (have H2_ := (Option.bind_some _ _).symm.trans H; rw [hy350]; with_reducible exact H2_) | (have H2_ := (Option.bind_some _ _).symm.trans H; with_reducible exact H2_) | with_reducible exact H | (rw [hy350]; exact H) | exact H
      have Ny350 := Aside0.mk hy350
      clear hy350
      obtain ⟨ji10, hji10⟩ : ∃ j_ : Int, (wrap64 (a1 + 2)) = j_ := ⟨_, rfl⟩
      replace H : (if 0 ≤ (ji10) then (if (ji10) ≤ (l0_1.length : Int) then ((some (l0_1.drop ((ji10) : Int).toNat : List (S36))).bind fun y353 => (if y350.length + y353.length < 5864062014805 then (some (a0_0, (y350 ++ y353))) else (none))) else (none)) else (none)) = some (r1, r2) := by first | (rw [hji10] at H; exact H) | (simp only [hji10] at H ⊢; exact H)
      (try rw [hji10] at A5)
      have hji10w : (IntKind.i64.wrap (a1 + 2)) = ji10 := (i64_w _).trans hji10
      by_cases c11 : 0 ≤ (ji10)
      ·
       rw [if_pos c11] at H
       have c11b0 := eq_true c11
       have c11b1 : decide (0 ≤ (ji10)) = true := decide_eq_true c11
       clear c11
       by_cases c12 : (ji10) ≤ (l0_1.length : Int)
       ·
        rw [if_pos c12] at H
        have c12b0 := eq_true c12
        have c12b1 : decide ((ji10) ≤ (l0_1.length : Int)) = true := decide_eq_true c12
        clear c12
        obtain ⟨y353, hy353⟩ : ∃ y_ : List (S36), y_ = (l0_1.drop ((ji10) : Int).toNat) := ⟨_, rfl⟩
        replace H : (if y350.length + y353.length < 5864062014805 then (some (a0_0, (y350 ++ y353))) else (none)) = some (r1, r2) := by first | (rw [hy353]; with_reducible exact H) | (have H2_ := (Option.bind_some _ _).symm.trans H; rw [hy353]; with_reducible exact H2_) | (have H2_ := (Option.bind_some _ _).symm.trans H; with_reducible exact H2_) | with_reducible exact H | (rw [hy353]; exact H) | exact H
        have Ny353 := Aside0.mk hy353
        clear hy353
        by_cases c13 : y350.length + y353.length < 5864062014805
        ·
         rw [if_pos c13] at H
         have LMc13 := Aside0.mk c13
         clear c13
         obtain ⟨y357, hy357⟩ : ∃ y_ : List (S36), y_ = (y350 ++ y353) := ⟨_, rfl⟩
         replace H : (some (a0_0, y357)) = some (r1, r2) := by first | (rw [hy357]; with_reducible exact H) | (have H2_ := (Option.bind_some _ _).symm.trans H; rw [hy357]; with_reducible exact H2_) | (have H2_ := (Option.bind_some _ _).symm.trans H; with_reducible exact H2_) | with_reducible exact H | (rw [hy357]; exact H) | exact H
         have Ny357 := Aside0.mk hy357
         clear hy357
         simp only [Option.some.injEq, Prod.mk.injEq] at H
         obtain ⟨rfl, rfl⟩ := H
         go_enter Try.func97, Try.ntmps97
         try go_wp2_with (first | ((with_reducible refine gate_dst (N := 2) rfl ?_); refine box_event ?hg (N := 2) ?hd (cs := #[.int .i64 a0_0, .slice A0_1 l0_1.length c0_1]) (t := 26) ?hr ?_; (case hd => rfl); (case hg => rfl); (case hr => first | (go_simp; done) | (go_simp; rfl)); intro gb332 hg w14 hbox hb; have n0_ := Aside0.mk (bst_ HB.out hb); have n1_ := Aside0.mk (hbox); have n2_ := Aside0.mk ((by rw [hg]; exact (bsz_ HB.out) : w.heap.size ≤ gb332)); have n3_ := Aside0.mk ((by rw [hg]; exact (bsz_ HB.out) : w.heap.size ≤ gb332)); clear HB; have HB := n0_; have BK332 := n1_; have GW332 := n2_; have GE332 := n3_; clear n0_ n1_ n2_ n3_; clear hb hbox hg) | ((with_reducible refine gate_dst (N := 4) rfl ?_); refine box_event ?hg (N := 4) ?hd (cs := #[.int .i64 0, .slice none 0 0]) (t := 26) ?hr ?_; (case hd => rfl); (case hg => rfl); (case hr => first | (go_simp; done) | (go_simp; rfl)); intro gb333 hg w15 hbox hb; have n0_ := Aside0.mk (blk_bel BK332.out hb); have n1_ := Aside0.mk (below_step (by repeat (first | (with_reducible first | exact HB.out | apply below_alloc | apply pw_below_drewN | apply below_drew1 | refine below_set ?_ GE332.out) | exact HB.out)) hb); have n2_ := Aside0.mk (hbox); have n3_ := Aside0.mk ((by rw [hg]; exact (below_size (by repeat (first | (with_reducible first | exact HB.out | apply below_alloc | apply pw_below_drewN | apply below_drew1 | refine below_set ?_ GE332.out) | exact HB.out))) : w.heap.size ≤ gb333)); have n4_ := Aside0.mk ((by rw [hg]; exact (below_size (by repeat (first | (with_reducible first | exact HB.out | apply below_alloc | apply pw_below_drewN | apply below_drew1 | refine below_set ?_ GE332.out) | exact HB.out))) : w.heap.size ≤ gb333)); have n5_ := Aside0.mk ((by rw [hg]; exact Nat.ne_of_lt (blk_lt (g := gb332) (o := .cells #[.int .i64 a0_0, .slice A0_1 l0_1.length c0_1] 26 (0, 0)) (by (with_reducible repeat first | apply blk_drewN | apply blk_drew | apply blk_alloc); exact BK332.out)) : gb332 ≠ gb333)); have n6_ := Aside0.mk ((by rw [hg]; exact Nat.ne_of_gt (blk_lt (g := gb332) (o := .cells #[.int .i64 a0_0, .slice A0_1 l0_1.length c0_1] 26 (0, 0)) (by (with_reducible repeat first | apply blk_drewN | apply blk_drew | apply blk_alloc); exact BK332.out)) : gb333 ≠ gb332)); clear BK332; clear HB; have BK332 := n0_; have HB := n1_; have BK333 := n2_; have GW333 := n3_; have GE333 := n4_; have NB332_333 := n5_; have NB333_332 := n6_; clear n0_ n1_ n2_ n3_ n4_ n5_ n6_; clear hb hbox hg; have hnb16 := NB332_333.out; have hnc16 := NB333_332.out; have hcz17_0 : w15.cell? ⟨gb332, 0, none⟩ = some (.int .i64 a0_0) := (blk_cell BK332.out 0).trans rfl; have hcz17_1 : w15.cell? ⟨gb332, 1, none⟩ = some (.slice A0_1 l0_1.length c0_1) := (blk_cell BK332.out 1).trans rfl; have hfz17_0 := blk_frozen BK332.out 0; have hfz17_1 := blk_frozen BK332.out 1; have p334 : 0 ≤ (a1 : Int) := of_decide_eq_true (by first | (with_reducible assumption) | assumption); have q334 : a1 < (l0_1.length : Int) := of_decide_eq_true (by first | (with_reducible assumption) | assumption); obtain ⟨ad334, e334, hx334_0, hx334_1, hx334_2⟩ := at_T36 HR0_1.out a1 p334 q334; cases e334; replace hx334_0 := (HB.out.cell (World.block_lt_of_cell? w _ hx334_0)).trans hx334_0; replace hx334_1 := (HB.out.cell (World.block_lt_of_cell? w _ hx334_1)).trans hx334_1; replace hx334_2 := (HB.out.cell (World.block_lt_of_cell? w _ hx334_2)).trans hx334_2; replace p334 := eq_true p334; replace q334 := eq_true q334) | ((with_reducible refine gate_callee (f := 122) rfl ?_); refine goesL_ (some 14) rfl rfl Try.func122 (by kernel_rfl) rfl #[.agg #[.int .i64 ((rd_T36 l0_1 a1).f0), .int .i64 ((rd_T36 l0_1 a1).f1), .int .i64 ((rd_T36 l0_1 a1).f2)]] rfl (by (try simp only [List.map_toArray, List.map_cons, List.map_nil]); first | done | rfl | (simp only [List.length_drop, List.length_take]; rfl)) ?_; (with_reducible refine (spec_ParentOf.calls ((rd_T36 l0_1 a1).f0) ((rd_T36 l0_1 a1).f1) ((rd_T36 l0_1 a1).f2) t335 t336 t337 t338 _ A5.out).mono ?_); rintro e w18 ⟨rfl, hb⟩; refine ⟨_, rfl, ?_⟩; have n0_ := Aside0.mk (blk_bel BK332.out hb); have n1_ := Aside0.mk (blk_bel BK333.out hb); have n2_ := Aside0.mk (below_step (by repeat (first | (with_reducible first | exact HB.out | apply below_alloc | apply pw_below_drewN | apply below_drew1 | refine below_set ?_ GE332.out | refine below_set ?_ GE333.out) | exact HB.out)) hb); clear BK332; clear BK333; clear HB; have BK332 := n0_; have BK333 := n1_; have HB := n2_; clear n0_ n1_ n2_; (try clear hb); (try clear hb2); (try clear hk); (try clear hi)) | ((with_reducible refine gate_dst (N := 5) rfl ?_); refine box_event ?hg (N := 5) ?hd (cs := #[.int .i64 0, .int .i64 0, .int .i64 0]) (t := 36) ?hr ?_; (case hd => rfl); (case hg => rfl); (case hr => first | (go_simp; done) | (go_simp; rfl)); intro gb339 hg w19 hbox hb; have n0_ := Aside0.mk (blk_bel BK332.out hb); have n1_ := Aside0.mk (blk_bel BK333.out hb); have n2_ := Aside0.mk (below_step (by repeat (first | (with_reducible first | exact HB.out | apply below_alloc | apply pw_below_drewN | apply below_drew1 | refine below_set ?_ GE332.out | refine below_set ?_ GE333.out) | exact HB.out)) hb); have n3_ := Aside0.mk (hbox); have n4_ := Aside0.mk ((by rw [hg]; exact (below_size (by repeat (first | (with_reducible first | exact HB.out | apply below_alloc | apply pw_below_drewN | apply below_drew1 | refine below_set ?_ GE332.out | refine below_set ?_ GE333.out) | exact HB.out))) : w.heap.size ≤ gb339)); have n5_ := Aside0.mk ((by rw [hg]; exact (below_size (by repeat (first | (with_reducible first | exact HB.out | apply below_alloc | apply pw_below_drewN | apply below_drew1 | refine below_set ?_ GE332.out | refine below_set ?_ GE333.out) | exact HB.out))) : w.heap.size ≤ gb339)); have n6_ := Aside0.mk ((by rw [hg]; exact Nat.ne_of_lt (blk_lt (g := gb332) (o := .cells #[.int .i64 a0_0, .slice (some ad334) l0_1.length c0_1] 26 (0, 0)) (by (with_reducible repeat first | apply blk_drewN | apply blk_drew | apply blk_alloc); exact BK332.out)) : gb332 ≠ gb339)); have n7_ := Aside0.mk ((by rw [hg]; exact Nat.ne_of_gt (blk_lt (g := gb332) (o := .cells #[.int .i64 a0_0, .slice (some ad334) l0_1.length c0_1] 26 (0, 0)) (by (with_reducible repeat first | apply blk_drewN | apply blk_drew | apply blk_alloc); exact BK332.out)) : gb339 ≠ gb332)); have n8_ := Aside0.mk ((by rw [hg]; exact Nat.ne_of_lt (blk_lt (g := gb333) (o := .cells #[.int .i64 0, .slice none 0 0] 26 (0, 0)) (by (with_reducible repeat first | apply blk_drewN | apply blk_drew | apply blk_alloc); exact BK333.out)) : gb333 ≠ gb339)); have n9_ := Aside0.mk ((by rw [hg]; exact Nat.ne_of_gt (blk_lt (g := gb333) (o := .cells #[.int .i64 0, .slice none 0 0] 26 (0, 0)) (by (with_reducible repeat first | apply blk_drewN | apply blk_drew | apply blk_alloc); exact BK333.out)) : gb339 ≠ gb333)); clear BK332; clear BK333; clear HB; have BK332 := n0_; have BK333 := n1_; have HB := n2_; have BK339 := n3_; have GW339 := n4_; have GE339 := n5_; have NB332_339 := n6_; have NB339_332 := n7_; have NB333_339 := n8_; have NB339_333 := n9_; clear n0_ n1_ n2_ n3_ n4_ n5_ n6_ n7_ n8_ n9_; clear hb hbox hg; have hnb20 := NB339_332.out; have hnc20 := NB332_339.out; have hnb21 := NB339_333.out; have hnc21 := NB333_339.out; have hcz22_0 : w19.cell? ⟨gb339, 0, none⟩ = some (.int .i64 0) := (blk_cell BK339.out 0).trans rfl; have hcz22_1 : w19.cell? ⟨gb339, 1, none⟩ = some (.int .i64 0) := (blk_cell BK339.out 1).trans rfl; have hcz22_2 : w19.cell? ⟨gb339, 2, none⟩ = some (.int .i64 0) := (blk_cell BK339.out 2).trans rfl; have hfz22_0 := blk_frozen BK339.out 0; have hfz22_1 := blk_frozen BK339.out 1; have hfz22_2 := blk_frozen BK339.out 2) | ((with_reducible refine gate_dst (N := 17) rfl ?_); refine Kd.R_lit k36 _ 36 ?hg (N := 17) ?hd (xs := ([] : List (S36))) (inner := []) (ok := fun _ => True) (okp := fun _ => True) ?hr ?hp (fun _ hk => hk) trivial (Below.refl _ _) (Nat.le_refl _) (by simp) ?_; (case hd => rfl); (case hg => rfl); (case hr => first | (go_simp; done) | (go_simp; rfl)); (case hp => exact (Reps.none _ _)); intro v341 w23 ho24 hb hg_ hnew_; clear hg_ hnew_; (first | rw [← Ny340.out] at ho24 | (simp only [Int.reduceToNat] at ho24; rw [← Ny340.out] at ho24)); have n0_ := Aside0.mk (Kd.R_lower (Kd.R_newB ho24 (g := gb339) (o := .cells #[.int .i64 t335, .int .i64 t336, .int .i64 t337] 36 (0, 0)) (by (with_reducible repeat first | apply blk_drewN | apply blk_drew | apply blk_alloc); refine blk_put (cs := #[.int .i64 t335, .int .i64 t336, .int .i64 0]) ?_ 2 _ rfl; (with_reducible repeat first | apply blk_drewN | apply blk_drew | apply blk_alloc); refine blk_put (cs := #[.int .i64 t335, .int .i64 0, .int .i64 0]) ?_ 1 _ rfl; (with_reducible repeat first | apply blk_drewN | apply blk_drew | apply blk_alloc); refine blk_put (cs := #[.int .i64 0, .int .i64 0, .int .i64 0]) ?_ 0 _ rfl; (with_reducible repeat first | apply blk_drewN | apply blk_drew | apply blk_alloc); exact BK339.out)) (below_size (by repeat (first | (with_reducible first | exact HB.out | apply below_alloc | apply pw_below_drewN | apply below_drew1 | refine below_set ?_ GE332.out | refine below_set ?_ GE333.out | refine below_set ?_ GE339.out) | exact HB.out)))); have n1_ := Aside0.mk (blk_below (g := gb332) (o := .cells #[.int .i64 a0_0, .slice (some ad334) l0_1.length c0_1] 26 (0, 0)) (by (with_reducible repeat first | apply blk_drewN | apply blk_drew | apply blk_alloc); refine blk_far ?_ NB332_339.out _; (with_reducible repeat first | apply blk_drewN | apply blk_drew | apply blk_alloc); refine blk_far ?_ NB332_339.out _; (with_reducible repeat first | apply blk_drewN | apply blk_drew | apply blk_alloc); refine blk_far ?_ NB332_339.out _; (with_reducible repeat first | apply blk_drewN | apply blk_drew | apply blk_alloc); exact BK332.out) hb); have n2_ := Aside0.mk (blk_below (g := gb333) (o := .cells #[.int .i64 0, .slice none 0 0] 26 (0, 0)) (by (with_reducible repeat first | apply blk_drewN | apply blk_drew | apply blk_alloc); refine blk_far ?_ NB333_339.out _; (with_reducible repeat first | apply blk_drewN | apply blk_drew | apply blk_alloc); refine blk_far ?_ NB333_339.out _; (with_reducible repeat first | apply blk_drewN | apply blk_drew | apply blk_alloc); refine blk_far ?_ NB333_339.out _; (with_reducible repeat first | apply blk_drewN | apply blk_drew | apply blk_alloc); exact BK333.out) hb); have n3_ := Aside0.mk (blk_below (g := gb339) (o := .cells #[.int .i64 t335, .int .i64 t336, .int .i64 t337] 36 (0, 0)) (by (with_reducible repeat first | apply blk_drewN | apply blk_drew | apply blk_alloc); refine blk_put (cs := #[.int .i64 t335, .int .i64 t336, .int .i64 0]) ?_ 2 _ rfl; (with_reducible repeat first | apply blk_drewN | apply blk_drew | apply blk_alloc); refine blk_put (cs := #[.int .i64 t335, .int .i64 0, .int .i64 0]) ?_ 1 _ rfl; (with_reducible repeat first | apply blk_drewN | apply blk_drew | apply blk_alloc); refine blk_put (cs := #[.int .i64 0, .int .i64 0, .int .i64 0]) ?_ 0 _ rfl; (with_reducible repeat first | apply blk_drewN | apply blk_drew | apply blk_alloc); exact BK339.out) hb); have n4_ := Aside0.mk (below_step (by repeat (first | (with_reducible first | exact HB.out | apply below_alloc | apply pw_below_drewN | apply below_drew1 | refine below_set ?_ GE332.out | refine below_set ?_ GE333.out | refine below_set ?_ GE339.out) | exact HB.out)) hb); clear BK332; clear BK333; clear BK339; clear HB; have HO342 := n0_; have BK332 := n1_; have BK333 := n2_; have BK339 := n3_; have HB := n4_; clear n0_ n1_ n2_ n3_ n4_; clear hb ho24; have hcz25_0 : w23.cell? ⟨gb332, 0, none⟩ = some (.int .i64 a0_0) := (blk_cell BK332.out 0).trans rfl; have hcz25_1 : w23.cell? ⟨gb332, 1, none⟩ = some (.slice (some ad334) l0_1.length c0_1) := (blk_cell BK332.out 1).trans rfl; have hfz25_0 := blk_frozen BK332.out 0; have hfz25_1 := blk_frozen BK332.out 1; have q26 : (a1 : Int) ≤ ((l0_1.length : Int) : Int) := of_decide_eq_true (by first | (with_reducible assumption) | assumption); obtain ⟨i026, hi026, _, hsz26, _⟩ := info_parts info36; have hroom26 : l0_1.length ≤ c0_1 := HC0_1.out; have hC26 : Kd.C k36 _ (some ad334) l0_1.length l0_1 := HR0_1.out; have hcut26 := cut_to (P := Try.prog) 24 36 .i64 Try.underlying24 hi026 (some ad334) l0_1.length c0_1 a1 (of_decide_eq_true (by first | (with_reducible assumption) | assumption)) q26 hroom26; have hr26 := Kd.C_take (m := (a1 : Int).toNat) hC26 (by omega); have hy26 : y343.length = (a1 : Int).toNat := (by rw [Ny343.out, List.length_take]; omega); rw [← Ny343.out] at hr26; rw [← hy26] at hcut26; have HR346 := Aside0.mk hr26; have HC346 := Aside0.mk (show y343.length ≤ c0_1 from by omega); clear hr26 hC26 hroom26 hi026 hsz26; have KY26 := Aside0.mk hy26; clear hy26; replace q26 := eq_true q26) | ((with_reducible refine gate_builtin (b := .append) (xs := #[.tmp 17, .tmp 21]) rfl ?_); at_builtin; refine Kd.R_append_rows k36 (w0 := w) w.heap.size rfl (.tmp 17) (.tmp 21) 24 36 (.agg #[(.int .i64 0), (.int .i64 0), (.int .i64 0)]) 24 rfl Try.underlying24 info36 rfl (by decide) (by omega) v341 y340 y343 _ _ _ (fun k_ => k_ ≠ gb339) (fun _ => False) rfl rfl ?aO ?aR (fun _ _ h => h) (fun _ h => h.elim) ?aF ?aB ?aS ?aL ?_; (case aR => repeat (first | exact (Kd.C_below HR346.out HB.out) | (with_reducible refine Kd.C_alloc ?_ _) | (with_reducible refine Kd.C_drewN ?_ _) | (with_reducible refine Kd.C_drew ?_))); (case aB => exact (by repeat (first | (with_reducible first | exact HB.out | apply below_alloc | apply pw_below_drewN | apply below_drew1 | refine below_set ?_ GE332.out | refine below_set ?_ GE333.out | refine below_set ?_ GE339.out) | exact HB.out))); (case aF => exact (fun k_ hk => Kd.freshB (g := gb339) (o := .cells #[.int .i64 t335, .int .i64 t336, .int .i64 t337] 36 (0, 0)) (by (with_reducible repeat first | apply blk_drewN | apply blk_drew | apply blk_alloc); exact BK339.out) k_ hk)); (case aO => exact (by (with_reducible repeat first | apply Kd.R_alloc | apply Kd.R_drewN | apply Kd.R_drew); exact Kd.R_mono HO342.out (fun _ hk => hk.2))); (case aS => exact (below_size (by repeat (first | (with_reducible first | exact HB.out | apply below_alloc | apply pw_below_drewN | apply below_drew1 | refine below_set ?_ GE332.out | refine below_set ?_ GE333.out | refine below_set ?_ GE339.out) | exact HB.out)))); (case aL => have := LMc8.out; omega); intro v348 w27 ho hb hg hat; rw [← Ny347.out] at ho; have n0_ := Aside0.mk (blk_grown (g := gb332) (o := .cells #[.int .i64 a0_0, .slice (some ad334) l0_1.length c0_1] 26 (0, 0)) (by (with_reducible repeat first | apply blk_drewN | apply blk_drew | apply blk_alloc); exact BK332.out) hg (Kd.R_ne HO342.out BK332.out (by decide))); have n1_ := Aside0.mk (blk_grown (g := gb333) (o := .cells #[.int .i64 0, .slice none 0 0] 26 (0, 0)) (by (with_reducible repeat first | apply blk_drewN | apply blk_drew | apply blk_alloc); exact BK333.out) hg (Kd.R_ne HO342.out BK333.out (by decide))); have n2_ := Aside0.mk (blk_grown (g := gb339) (o := .cells #[.int .i64 t335, .int .i64 t336, .int .i64 t337] 36 (0, 0)) (by (with_reducible repeat first | apply blk_drewN | apply blk_drew | apply blk_alloc); exact BK339.out) hg (Kd.R_away HO342.out (fun _ hk => hk.2))); have n3_ := Aside0.mk (hb); have n4_ := Aside0.mk (ho); clear BK332; clear BK333; clear BK339; clear HB; clear HO342; have BK332 := n0_; have BK333 := n1_; have BK339 := n2_; have HB := n3_; have HO349 := n4_; clear n0_ n1_ n2_ n3_ n4_; clear ho hb hg hat; have hcz28_0 : w27.cell? ⟨gb339, 0, none⟩ = some (.int .i64 t335) := (blk_cell BK339.out 0).trans rfl; have hcz28_1 : w27.cell? ⟨gb339, 1, none⟩ = some (.int .i64 t336) := (blk_cell BK339.out 1).trans rfl; have hcz28_2 : w27.cell? ⟨gb339, 2, none⟩ = some (.int .i64 t337) := (blk_cell BK339.out 2).trans rfl; have hfz28_0 := blk_frozen BK339.out 0; have hfz28_1 := blk_frozen BK339.out 1; have hfz28_2 := blk_frozen BK339.out 2) | ((with_reducible refine gate_builtin (b := .append) (xs := #[.tmp 23, .tmp 25]) rfl ?_); at_builtin; refine Kd.R_append k36 (w0 := w) w.heap.size rfl (.tmp 23) (.tmp 25) 24 36 (.agg #[(.int .i64 0), (.int .i64 0), (.int .i64 0)]) 24 rfl Try.underlying24 info36 rfl (by decide) (by omega) v348 y347 (⟨t335, t336, t337⟩ : S36) [.int .i64 t335, .int .i64 t336, .int .i64 t337] (fun k_ => k_ ≠ gb339) (fun _ => False) rfl rfl ?aP (fun _ hk => hk.elim) ?aF ?aO ?aB ?aS ?aL ?_; (case aP => exact k36_mkM _ _ _ (⟨t335, t336, t337⟩ : S36)); (case aB => exact (by repeat (first | (with_reducible first | exact HB.out | apply below_alloc | apply pw_below_drewN | apply below_drew1 | refine below_set ?_ GE332.out | refine below_set ?_ GE333.out | refine below_set ?_ GE339.out) | exact HB.out))); (case aF => exact (fun k_ hk => Kd.freshB (g := gb339) (o := .cells #[.int .i64 t335, .int .i64 t336, .int .i64 t337] 36 (0, 0)) (by (with_reducible repeat first | apply blk_drewN | apply blk_drew | apply blk_alloc); exact BK339.out) k_ hk)); (case aO => exact (by (with_reducible repeat first | apply Kd.R_alloc | apply Kd.R_drewN | apply Kd.R_drew); exact HO349.out)); (case aS => exact (below_size (by repeat (first | (with_reducible first | exact HB.out | apply below_alloc | apply pw_below_drewN | apply below_drew1 | refine below_set ?_ GE332.out | refine below_set ?_ GE333.out | refine below_set ?_ GE339.out) | exact HB.out)))); (case aL => have := LMc9.out; omega); intro v351 w29 ho hb hg hat; rw [← Ny350.out] at ho; have n0_ := Aside0.mk (blk_grown (g := gb332) (o := .cells #[.int .i64 a0_0, .slice (some ad334) l0_1.length c0_1] 26 (0, 0)) (by (with_reducible repeat first | apply blk_drewN | apply blk_drew | apply blk_alloc); exact BK332.out) hg (Kd.R_ne HO349.out BK332.out (by decide))); have n1_ := Aside0.mk (blk_grown (g := gb333) (o := .cells #[.int .i64 0, .slice none 0 0] 26 (0, 0)) (by (with_reducible repeat first | apply blk_drewN | apply blk_drew | apply blk_alloc); exact BK333.out) hg (Kd.R_ne HO349.out BK333.out (by decide))); have n2_ := Aside0.mk (blk_grown (g := gb339) (o := .cells #[.int .i64 t335, .int .i64 t336, .int .i64 t337] 36 (0, 0)) (by (with_reducible repeat first | apply blk_drewN | apply blk_drew | apply blk_alloc); exact BK339.out) hg (Kd.R_away HO349.out (fun _ hk => hk))); have n3_ := Aside0.mk (hb); have n4_ := Aside0.mk (ho); clear BK332; clear BK333; clear BK339; clear HB; clear HO349; have BK332 := n0_; have BK333 := n1_; have BK339 := n2_; have HB := n3_; have HO352 := n4_; clear n0_ n1_ n2_ n3_ n4_; clear ho hb hg hat))
         have n0_ := Aside0.mk (Kd.R_drew HO352.out)
         have n1_ := Aside0.mk (blk_drew BK332.out)
         have n2_ := Aside0.mk (blk_drew BK333.out)
         have n3_ := Aside0.mk (blk_drew BK339.out)
         have n4_ := Aside0.mk (below_drew1 HB.out)
         clear HO352
         clear BK332
         clear BK333
         clear BK339
         clear HB
         have HO352 := n0_
         have BK332 := n1_
         have BK333 := n2_
         have BK339 := n3_
         have HB := n4_
         clear n0_ n1_ n2_ n3_ n4_
         have q31 : ((ji10) : Int) ≤ ((l0_1.length : Int) : Int) := of_decide_eq_true (by first | (with_reducible assumption) | assumption)
         obtain ⟨i031, hi031, _, hsz31, _⟩ := info_parts info36
         have hroom31 : l0_1.length ≤ c0_1 := HC0_1.out
         have hC31 : Kd.C k36 _ (some ad334) l0_1.length l0_1 := HR0_1.out
         have q031 : (0 : Int) ≤ ((ji10) : Int) := of_decide_eq_true (by first | (with_reducible assumption) | assumption)
         have hcut31 := cut_from (P := Try.prog) 24 36 .i64 Try.underlying24 hi031 3 hsz31 (some ad334) l0_1.length c0_1 (ji10) q031 q31
         have hr31 := Kd.C_drop (m := ((ji10) : Int).toNat) (c := c0_1) hC31 (by omega) hroom31
         obtain ⟨A31, hA31⟩ : ∃ A1, A1 = (if c0_1 = ((ji10) : Int).toNat then (some ad334) else ((some ad334) : Option Addr).map (·.add (((ji10) : Int).toNat * 3))) := ⟨_, rfl⟩
         obtain ⟨c31, hc31⟩ : ∃ c1, c1 = c0_1 - ((ji10) : Int).toNat := ⟨_, rfl⟩
         have hy31 : y353.length = l0_1.length - ((ji10) : Int).toNat := (by rw [Ny353.out, List.length_drop] <;> omega)
         rw [show (l0_1).drop ((ji10) : Int).toNat = y353 from Ny353.out.symm] at hr31
         replace hr31 : Kd.C k36 _ A31 y353.length y353 := (by rw [hA31]; exact hr31)
         rw [← hy31, ← hA31, ← hc31] at hcut31
         have HR356 := Aside0.mk hr31
         have HC356 := Aside0.mk (show y353.length ≤ c31 from by rw [hy31, hc31]; exact Nat.sub_le_sub_right hroom31 _)
         clear hr31 hC31 hroom31 hi031 hsz31 hc31
         have KY31 := Aside0.mk hy31
         have KA31 := Aside0.mk hA31
         clear hy31 hA31
         replace q31 := eq_true q31
         refine start_ (n := 11) (S := fun w' => w'.cell? ⟨gb332, 0, none⟩ = some (.int .i64 a0_0) ∧ w'.cell? ⟨gb332, 1, none⟩ = some (.slice (some ad334) l0_1.length c0_1)) (ds := []) #[N_,N_,N_,N_,N_,N_,N_,N_,N_,N_,N_] (by kernel_rfl) rfl rfl ⟨(blk_cell BK332.out 0).trans rfl, (blk_cell BK332.out 1).trans rfl⟩ (fun hHeld => ?_); refine with_tabW spec_l06Merge.tab4 spec_l06Merge.bits4 (fun HT_ HW_ => ?_)
         generalize w29.drew = w30 at HO352 BK332 BK333 BK339 HB HR356 hHeld ⊢
         refine pu_ HT_.out 0 27 #[Y_,N_,N_,N_,N_,N_,N_,N_,N_,N_,N_] ?_
         refine pu_ HT_.out 2 29 #[Y_,N_,Y_,N_,N_,N_,N_,N_,N_,N_,N_] ?_
         refine pu_ HT_.out 3 30 #[Y_,N_,Y_,Y_,N_,N_,N_,N_,N_,N_,N_] ?_
         refine pu_ HT_.out 5 32 #[Y_,N_,Y_,Y_,N_,Y_,N_,N_,N_,N_,N_] ?_
         refine pu_ HT_.out 6 33 #[Y_,N_,Y_,Y_,N_,Y_,Y_,N_,N_,N_,N_] ?_
         refine tk_ HT_.out HW_.out hHeld 1 28 #[Y_,Y_,Y_,Y_,N_,Y_,Y_,N_,N_,N_,N_] ?_
         refine tk_ HT_.out HW_.out hHeld 4 31 #[Y_,Y_,Y_,Y_,Y_,Y_,Y_,N_,N_,N_,N_] ?_
         refine pu_ HT_.out 7 34 #[Y_,Y_,Y_,Y_,Y_,Y_,Y_,Y_,N_,N_,N_] ?_
         refine one_ (i := 8) (N := some 35) #[Y_,Y_,Y_,Y_,Y_,Y_,Y_,Y_,Y_,N_,N_] rfl rfl (one_of HT_.out (by kernel_rfl)) (by decide) (fun K hK => ?_)
         refine Kd.R_append_rows_step k36 (w0 := w) w.heap.size (by rfl) (.tmp 29) (.tmp 34) 24 36 (.agg #[(.int .i64 0), (.int .i64 0), (.int .i64 0)]) 24 rfl Try.underlying24 info36 rfl (by decide) (by omega) v351 y350 y353 _ _ _ (fun k_ => k_ ≠ gb339) (fun _ => False) rfl rfl ?aO ?aR (fun _ _ h => h) (fun _ h => h.elim) ?aF ?aB ?aS ?aL ?_
         (case aR => repeat (first | exact (Kd.C_below HR356.out HB.out) | (with_reducible refine Kd.C_alloc ?_ _) | (with_reducible refine Kd.C_drewN ?_ _) | (with_reducible refine Kd.C_drew ?_)))
         (case aB => exact (by repeat (first | (with_reducible first | exact HB.out | apply below_alloc | apply pw_below_drewN | apply below_drew1 | refine below_set ?_ GE332.out | refine below_set ?_ GE333.out | refine below_set ?_ GE339.out) | exact HB.out)))
         (case aF => exact (fun k_ hk => Kd.freshB (g := gb339) (o := .cells #[.int .i64 t335, .int .i64 t336, .int .i64 t337] 36 (0, 0)) (by (with_reducible repeat first | apply blk_drewN | apply blk_drew | apply blk_alloc); exact BK339.out) k_ hk))
         (case aO => exact (by (with_reducible repeat first | apply Kd.R_alloc | apply Kd.R_drewN | apply Kd.R_drew); exact HO352.out))
         (case aS => exact (below_size (by repeat (first | (with_reducible first | exact HB.out | apply below_alloc | apply pw_below_drewN | apply below_drew1 | refine below_set ?_ GE332.out | refine below_set ?_ GE333.out | refine below_set ?_ GE339.out) | exact HB.out))))
         (case aL => have := LMc13.out; omega)
         intro v358 w32 ho hb hg hat
         rw [← Ny357.out] at ho
         have n0_ := Aside0.mk (blk_grown (g := gb332) (o := .cells #[.int .i64 a0_0, .slice (some ad334) l0_1.length c0_1] 26 (0, 0)) (by (with_reducible repeat first | apply blk_drewN | apply blk_drew | apply blk_alloc); exact BK332.out) hg (Kd.R_ne HO352.out BK332.out (by decide)))
         have n1_ := Aside0.mk (blk_grown (g := gb333) (o := .cells #[.int .i64 0, .slice none 0 0] 26 (0, 0)) (by (with_reducible repeat first | apply blk_drewN | apply blk_drew | apply blk_alloc); exact BK333.out) hg (Kd.R_ne HO352.out BK333.out (by decide)))
         have n2_ := Aside0.mk (blk_grown (g := gb339) (o := .cells #[.int .i64 t335, .int .i64 t336, .int .i64 t337] 36 (0, 0)) (by (with_reducible repeat first | apply blk_drewN | apply blk_drew | apply blk_alloc); exact BK339.out) hg (Kd.R_away HO352.out (fun _ hk => hk)))
         have n3_ := Aside0.mk (hb)
         have n4_ := Aside0.mk (ho)
         clear BK332
         clear BK333
         clear BK339
         clear HB
         clear HO352
         have BK332 := n0_
         have BK333 := n1_
         have BK339 := n2_
         have HB := n3_
         have HO359 := n4_
         clear n0_ n1_ n2_ n3_ n4_
         clear ho hb hg hat
         obtain ⟨Ao33, co33, eo33⟩ := Kd.R_slice HO359.out
         (first | subst eo33 | (injection eo33 with f1_ f2_ f3_; have f4_ := f1_.symm; have f5_ := f3_.symm; clear f1_ f2_ f3_; subst f4_; subst f5_))
         refine hK.out _ _ ⟨(blk_cell BK332.out 0).trans rfl, (blk_cell BK332.out 1).trans rfl⟩ (fun hHeld => ?_)
         clear hK K
         refine norm_ (a' := ?_) ?_ ?_
         rotate_left
         ·
          show Act.put _ (some 35) _ = _
          simp only [Act.put, q1_, q2_, q3_, i64_w, i32_w]
          rfl
         refine pu_ HT_.out 9 36 #[Y_,Y_,Y_,Y_,Y_,Y_,Y_,Y_,Y_,Y_,N_] ?_
         refine one_ (i := 10) (N := none) #[Y_,Y_,Y_,Y_,Y_,Y_,Y_,Y_,Y_,Y_,Y_] rfl rfl (one_of HT_.out (by kernel_rfl)) (by decide) (fun K hK => ?_)
         have hs34 : w32.cell? ⟨gb333, 0, none⟩ = some (.int .i64 0) := (blk_cell BK333.out 0).trans rfl
         have hfs34 := blk_frozen BK333.out 0
         have hns34_0 := NB332_333.out
         have hns34_2 := NB339_333.out
         have hms34_0 := NB333_332.out
         have hms34_2 := NB333_339.out
         have hs35 : w32.cell? ⟨gb333, 1, none⟩ = some (.slice none 0 0) := (blk_cell BK333.out 1).trans rfl
         have hfs35 := blk_frozen BK333.out 1
         have hns35_0 := NB332_333.out
         have hns35_2 := NB339_333.out
         have hms35_0 := NB333_332.out
         have hms35_2 := NB333_339.out
         refine skip_ (w1 := ?_) (by rfl) rfl ?_ ?_
         rotate_left
         ·
          go_simp
          rfl
         refine hK.out _ _ ⟨((cell_far (p := ⟨gb333, _, none⟩) NB332_333.out _).trans (((cell_far (p := ⟨gb333, _, none⟩) NB332_333.out _).trans (hHeld.1)))), ((cell_far (p := ⟨gb333, _, none⟩) NB332_333.out _).trans (((cell_far (p := ⟨gb333, _, none⟩) NB332_333.out _).trans (hHeld.2))))⟩ (fun hHeld => ?_)
         clear hK K
         refine done_ (done_of HT_.out (by kernel_rfl)) ?_
         try go_wp2
         refine bodyPost_ret (results_cell_row rfl _ _ gb333 26 #[.int .i64 a0_0, .slice Ao33 y357.length co33] (0, 0) _ rfl (by (with_reducible repeat first | apply blk_drewN | apply blk_drew | apply blk_alloc); refine blk_put (cs := #[.int .i64 a0_0, .slice none 0 0]) ?_ 1 _ rfl; (with_reducible repeat first | apply blk_drewN | apply blk_drew | apply blk_alloc); refine blk_put (cs := #[.int .i64 0, .slice none 0 0]) ?_ 0 _ rfl; (with_reducible repeat first | apply blk_drewN | apply blk_drew | apply blk_alloc); exact BK333.out) Try.underlying26 rfl (by kernel_rfl)) rfl ?_
         exact ⟨_, by first | rfl | (simp [errW_none, errW_some] <;> rfl) | (simp only [← hji10]; first | rfl | (simp [errW_none, errW_some] <;> rfl)) | (simp [*, errW_none, errW_some] <;> rfl), by (with_reducible repeat first | apply Kd.R_alloc | apply Kd.R_drewN | apply Kd.R_drew); exact Kd.R_mono (Kd.R_far (p := ⟨gb333, 1, none⟩) (Kd.R_far (p := ⟨gb333, 0, none⟩) (Kd.R_types HO359.out BK333.out (by decide)) (fun _ hk => hk.2) (.int .i64 a0_0)) (fun _ hk => hk.2) (.slice Ao33 y357.length co33)) (fun _ hk => trivial), by repeat (first | (with_reducible first | exact HB.out | apply below_alloc | apply pw_below_drewN | apply below_drew1 | refine below_set ?_ GE332.out | refine below_set ?_ GE333.out | refine below_set ?_ GE339.out) | exact HB.out)⟩
        ·
         rw [if_neg c13] at H
         exact absurd H (by simp)
       ·
        rw [if_neg c12] at H
        exact absurd H (by simp)
      ·
       rw [if_neg c11] at H
       exact absurd H (by simp)
     ·
      rw [if_neg c9] at H
      exact absurd H (by simp)
    ·
     rw [if_neg c8] at H
     exact absurd H (by simp)
   ·
    rw [if_neg c7] at H
    exact absurd H (by simp)
  ·
   rw [if_neg c4] at H
   exact absurd H (by simp)
 ·
  rw [if_neg c3] at H
  exact absurd H (by simp)

end Go.Proofs.Ytbkkehjhfgocfaa.PFnExactCoarsenState
