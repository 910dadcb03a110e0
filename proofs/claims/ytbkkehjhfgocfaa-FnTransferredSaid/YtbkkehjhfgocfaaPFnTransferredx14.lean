/- Written by this repo's own copy of a print: plain functions beneath a law, and the proof that the program computes them; no condition. -/
import Derived.Test.YtbkkehjhfgocfaaPFnTransferredx0
import Derived.Test.YtbkkehjhfgocfaaPFnTransferredx2
import Derived.Test.YtbkkehjhfgocfaaPFnTransferredx6
import Derived.Test.YtbkkehjhfgocfaaPFnTransferredx9
import Derived.Test.YtbkkehjhfgocfaaPFnTransferredx12
import Derived.Test.YtbkkehjhfgocfaaPFnTransferredx13
namespace Go.Proofs.Ytbkkehjhfgocfaa.PFnTransferred
open Go.RowKit Go.Proofs.YtbkkehjhfgocfaaW.PrintWords Go.Proofs.YtbkkehjhfgocfaaW.PrintLast Go.Proofs.YtbkkehjhfgocfaaW.PrintMore
attribute [local go_sem] max2_int min2_int max_two min_two max_three min_three max_four min_four   -- for this text's walks alone
set_option linter.unusedVariables false
set_option linter.unusedSimpArgs false

/-! ### impl_MayCoarsen: function 55 -/
def impl_MayCoarsen.f (k : Nat) (a0_0 : Int) (l0_1 : List (S36)) (a1 : Int) : Option (Bool) := (impl_MeshOk.f k a0_0 l0_1).bind fun t484 => (if t484 = true then (if a1 ≥ 0 then ((impl_Mesh_has.f a0_0 l0_1 a1).bind fun t485 => (if t485 = true then ((impl_Mesh_mayCoarsen.f k a0_0 l0_1 a1).bind fun t486 => (some t486)) else (some false))) else (some false)) else (some false))
theorem impl_MayCoarsen.mono : ∀ a0 a1 a2 k, LeO (impl_MayCoarsen.f k a0 a1 a2) (impl_MayCoarsen.f (k + 1) a0 a1 a2) := by
 intro a0 a1 a2 k
 unfold impl_MayCoarsen.f
 repeat' first
   | (with_reducible exact impl_MeshOk.mono _ _ _)
   | (with_reducible exact impl_Mesh_mayCoarsen.mono _ _ _ _)
   | (with_reducible exact LeO.refl _)
   | (with_reducible exact LeO.none _)
   | (with_reducible refine LeO.ite ?_ ?_)
   | (with_reducible refine LeO.bind ?_ (fun _ => ?_))
   | exact impl_MeshOk.mono _ _ _
   | exact impl_Mesh_mayCoarsen.mono _ _ _ _
   | exact LeO.none _
   | refine LeO.ite ?_ ?_
   | refine LeO.bind ?_ (fun _ => ?_)
set_option maxHeartbeats 8000000 in
set_option maxRecDepth 100000 in
theorem impl_MayCoarsen.calls (k : Nat) (a0_0 : Int) (A0_1 : Option Addr) (c0_1 : Nat) (l0_1 : List (S36)) (a1 : Int) (r : Bool) (w : World) (hr0_1 : Kd.C k36 w A0_1 l0_1.length l0_1) (hc0_1 : l0_1.length ≤ c0_1) (h : impl_MayCoarsen.f k a0_0 l0_1 a1 = some r) :
  Calls Try.prog 55 #[.agg #[.int .i64 a0_0, .slice A0_1 l0_1.length c0_1], .int .i64 a1] w fun e w' => e = .returned (.bool r) ∧ Below w.heap.size w w' := by
 have hu26 := Try.underlying26
 have HR0_1 := Aside0.mk hr0_1
 have HC0_1 := Aside0.mk hc0_1
 clear hr0_1 hc0_1
 have HB := Aside0.mk (Below.refl w.heap.size w)
 have H : ((impl_MeshOk.f k a0_0 l0_1).bind fun t484 => (if t484 = true then (if a1 ≥ 0 then ((impl_Mesh_has.f a0_0 l0_1 a1).bind fun t485 => (if t485 = true then ((impl_Mesh_mayCoarsen.f k a0_0 l0_1 a1).bind fun t486 => (some t486)) else (some false))) else (some false)) else (some false))) = some r := h
 clear h
 replace H := Option.bind_eq_some_iff.mp H
 obtain ⟨t484, A30, H⟩ := H
 (try dsimp only at H)
 have A3 := Aside0.mk A30
 clear A30
 by_cases c4 : t484 = true
 ·
  subst c4
  have H1 := H; rw [if_pos rfl] at H1
  clear H
  have H := H1
  clear H1
  by_cases c5 : a1 ≥ 0
  ·
   rw [if_pos c5] at H
   have c5b0 : decide (0 ≤ a1) = true := decide_eq_true c5
   clear c5
   replace H := Option.bind_eq_some_iff.mp H
   obtain ⟨t485, A60, H⟩ := H
   (try dsimp only at H)
   have A6 := Aside0.mk A60
   clear A60
   by_cases c7 : t485 = true
   ·
    subst c7
    have H1 := H; rw [if_pos rfl] at H1
    clear H
    have H := H1
    clear H1
    replace H := Option.bind_eq_some_iff.mp H
    obtain ⟨t486, A80, H⟩ := H
    replace H : (some t486) = some r := H
    have A8 := Aside0.mk A80
    clear A80
    obtain rfl := Option.some.inj H
    go_enter Try.func55, Try.ntmps55
    go_wp2_with (first | ((with_reducible refine gate_dst (N := 2) rfl ?_); refine bxe_ 2 #[.int .i64 a0_0, .slice A0_1 l0_1.length c0_1] 26 ?_; intro gb483 hg w9 hbox hb; have n0_ := Aside0.mk (bst_ HB.out hb); have n1_ := Aside0.mk (hbox); have n2_ := Aside0.mk (gz_ hg (bsz_ HB.out)); have n3_ := Aside0.mk (gz_ hg (bsz_ HB.out)); clear HB; have HB := n0_; have BK483 := n1_; have GW483 := n2_; have GE483 := n3_; clear n0_ n1_ n2_ n3_; clear hb hbox hg; have hcz10 := cl2_ BK483.out; have hfz10 := fr2_ BK483.out) | ((with_reducible refine gate_callee (f := 69) rfl ?_); refine goesL_ (some 6) rfl rfl Try.func69 (by kernel_rfl) rfl #[.agg #[.int .i64 a0_0, .slice A0_1 l0_1.length c0_1]] rfl (by (try simp only [List.map_toArray, List.map_cons, List.map_nil]); first | done | rfl | (simp only [List.length_drop, List.length_take]; rfl)) ?_; (with_reducible refine (impl_MeshOk.calls k a0_0 _ _ l0_1 true _ ?side1 ?side2 A3.out).mono ?_); (case side1 => exact cC_ HR0_1.out HB.out); (case side2 => exact HC0_1.out); rintro e w11 ⟨rfl, hb⟩; refine ⟨_, rfl, ?_⟩; have n0_ := Aside0.mk (blk_bel BK483.out hb); have n1_ := Aside0.mk (cBs_ HB.out hb); clear BK483; clear HB; have BK483 := n0_; have HB := n1_; clear n0_ n1_; (try clear hb); (try clear hb2); (try clear hk); (try clear hi); have hcz12 := cl2_ BK483.out; have hfz12 := fr2_ BK483.out) | (go_at_call 78; (with_reducible refine (impl_Mesh_has.calls a0_0 _ _ l0_1 a1 true _ ?side1 ?side2 A6.out).mono ?_); (case side1 => exact cC_ HR0_1.out HB.out); (case side2 => exact HC0_1.out); rintro e w13 ⟨rfl, hb⟩; have n0_ := Aside0.mk (blk_bel BK483.out hb); have n1_ := Aside0.mk (cBs_ HB.out hb); clear BK483; clear HB; have BK483 := n0_; have HB := n1_; clear n0_ n1_; (try clear hb); (try clear hb2); (try clear hk); (try clear hi); have hcz14 := cl2_ BK483.out; have hfz14 := fr2_ BK483.out) | (go_at_call 91; (with_reducible refine (impl_Mesh_mayCoarsen.calls k a0_0 _ _ l0_1 a1 t486 _ ?side1 ?side2 A8.out).mono ?_); (case side1 => exact cC_ HR0_1.out HB.out); (case side2 => exact HC0_1.out); rintro e w15 ⟨rfl, hb⟩; have n0_ := Aside0.mk (blk_bel BK483.out hb); have n1_ := Aside0.mk (cBs_ HB.out hb); clear BK483; clear HB; have BK483 := n0_; have HB := n1_; clear n0_ n1_; (try clear hb); (try clear hb2); (try clear hk); (try clear hi)))
    go_ret
    exact ⟨by first | rfl | (simp [*, errW_none, errW_some] <;> rfl), cB_ HB.out⟩
   ·
    replace c7 := Bool.eq_false_iff.mpr c7
    subst c7
    have H1 : (some false) = some r := by rw [if_neg (show ¬ (false = true) by decide)] at H; exact H
    clear H
    have H := H1
    clear H1
    obtain rfl := Option.some.inj H
    go_enter Try.func55, Try.ntmps55
    go_wp2_with (first | ((with_reducible refine gate_dst (N := 2) rfl ?_); refine bxe_ 2 #[.int .i64 a0_0, .slice A0_1 l0_1.length c0_1] 26 ?_; intro gb483 hg w16 hbox hb; have n0_ := Aside0.mk (bst_ HB.out hb); have n1_ := Aside0.mk (hbox); have n2_ := Aside0.mk (gz_ hg (bsz_ HB.out)); have n3_ := Aside0.mk (gz_ hg (bsz_ HB.out)); clear HB; have HB := n0_; have BK483 := n1_; have GW483 := n2_; have GE483 := n3_; clear n0_ n1_ n2_ n3_; clear hb hbox hg; have hcz17 := cl2_ BK483.out; have hfz17 := fr2_ BK483.out) | ((with_reducible refine gate_callee (f := 69) rfl ?_); refine goesL_ (some 6) rfl rfl Try.func69 (by kernel_rfl) rfl #[.agg #[.int .i64 a0_0, .slice A0_1 l0_1.length c0_1]] rfl (by (try simp only [List.map_toArray, List.map_cons, List.map_nil]); first | done | rfl | (simp only [List.length_drop, List.length_take]; rfl)) ?_; (with_reducible refine (impl_MeshOk.calls k a0_0 _ _ l0_1 true _ ?side1 ?side2 A3.out).mono ?_); (case side1 => exact cC_ HR0_1.out HB.out); (case side2 => exact HC0_1.out); rintro e w18 ⟨rfl, hb⟩; refine ⟨_, rfl, ?_⟩; have n0_ := Aside0.mk (blk_bel BK483.out hb); have n1_ := Aside0.mk (cBs_ HB.out hb); clear BK483; clear HB; have BK483 := n0_; have HB := n1_; clear n0_ n1_; (try clear hb); (try clear hb2); (try clear hk); (try clear hi); have hcz19 := cl2_ BK483.out; have hfz19 := fr2_ BK483.out) | (go_at_call 78; (with_reducible refine (impl_Mesh_has.calls a0_0 _ _ l0_1 a1 false _ ?side1 ?side2 A6.out).mono ?_); (case side1 => exact cC_ HR0_1.out HB.out); (case side2 => exact HC0_1.out); rintro e w20 ⟨rfl, hb⟩; have n0_ := Aside0.mk (blk_bel BK483.out hb); have n1_ := Aside0.mk (cBs_ HB.out hb); clear BK483; clear HB; have BK483 := n0_; have HB := n1_; clear n0_ n1_; (try clear hb); (try clear hb2); (try clear hk); (try clear hi)))
    go_ret
    exact ⟨by first | rfl | (simp [*, errW_none, errW_some] <;> rfl), cB_ HB.out⟩
  ·
   rw [if_neg c5] at H
   have c5b0 : decide (0 ≤ a1) = false := decide_eq_false c5
   clear c5
   obtain rfl := Option.some.inj H
   go_enter Try.func55, Try.ntmps55
   go_wp2_with (first | ((with_reducible refine gate_dst (N := 2) rfl ?_); refine bxe_ 2 #[.int .i64 a0_0, .slice A0_1 l0_1.length c0_1] 26 ?_; intro gb483 hg w21 hbox hb; have n0_ := Aside0.mk (bst_ HB.out hb); have n1_ := Aside0.mk (hbox); have n2_ := Aside0.mk (gz_ hg (bsz_ HB.out)); have n3_ := Aside0.mk (gz_ hg (bsz_ HB.out)); clear HB; have HB := n0_; have BK483 := n1_; have GW483 := n2_; have GE483 := n3_; clear n0_ n1_ n2_ n3_; clear hb hbox hg; have hcz22 := cl2_ BK483.out; have hfz22 := fr2_ BK483.out) | ((with_reducible refine gate_callee (f := 69) rfl ?_); refine goesL_ (some 6) rfl rfl Try.func69 (by kernel_rfl) rfl #[.agg #[.int .i64 a0_0, .slice A0_1 l0_1.length c0_1]] rfl (by (try simp only [List.map_toArray, List.map_cons, List.map_nil]); first | done | rfl | (simp only [List.length_drop, List.length_take]; rfl)) ?_; (with_reducible refine (impl_MeshOk.calls k a0_0 _ _ l0_1 true _ ?side1 ?side2 A3.out).mono ?_); (case side1 => exact cC_ HR0_1.out HB.out); (case side2 => exact HC0_1.out); rintro e w23 ⟨rfl, hb⟩; refine ⟨_, rfl, ?_⟩; have n0_ := Aside0.mk (blk_bel BK483.out hb); have n1_ := Aside0.mk (cBs_ HB.out hb); clear BK483; clear HB; have BK483 := n0_; have HB := n1_; clear n0_ n1_; (try clear hb); (try clear hb2); (try clear hk); (try clear hi)))
   go_ret
   exact ⟨by first | rfl | (simp [*, errW_none, errW_some] <;> rfl), cB_ HB.out⟩
 ·
  replace c4 := Bool.eq_false_iff.mpr c4
  subst c4
  have H1 : (some false) = some r := by rw [if_neg (show ¬ (false = true) by decide)] at H; exact H
  clear H
  have H := H1
  clear H1
  obtain rfl := Option.some.inj H
  go_enter Try.func55, Try.ntmps55
  go_wp2_with (first | ((with_reducible refine gate_dst (N := 2) rfl ?_); refine bxe_ 2 #[.int .i64 a0_0, .slice A0_1 l0_1.length c0_1] 26 ?_; intro gb483 hg w24 hbox hb; have n0_ := Aside0.mk (bst_ HB.out hb); have n1_ := Aside0.mk (hbox); have n2_ := Aside0.mk (gz_ hg (bsz_ HB.out)); have n3_ := Aside0.mk (gz_ hg (bsz_ HB.out)); clear HB; have HB := n0_; have BK483 := n1_; have GW483 := n2_; have GE483 := n3_; clear n0_ n1_ n2_ n3_; clear hb hbox hg; have hcz25 := cl2_ BK483.out; have hfz25 := fr2_ BK483.out) | ((with_reducible refine gate_callee (f := 69) rfl ?_); refine goesL_ (some 6) rfl rfl Try.func69 (by kernel_rfl) rfl #[.agg #[.int .i64 a0_0, .slice A0_1 l0_1.length c0_1]] rfl (by (try simp only [List.map_toArray, List.map_cons, List.map_nil]); first | done | rfl | (simp only [List.length_drop, List.length_take]; rfl)) ?_; (with_reducible refine (impl_MeshOk.calls k a0_0 _ _ l0_1 false _ ?side1 ?side2 A3.out).mono ?_); (case side1 => exact cC_ HR0_1.out HB.out); (case side2 => exact HC0_1.out); rintro e w26 ⟨rfl, hb⟩; refine ⟨_, rfl, ?_⟩; have n0_ := Aside0.mk (blk_bel BK483.out hb); have n1_ := Aside0.mk (cBs_ HB.out hb); clear BK483; clear HB; have BK483 := n0_; have HB := n1_; clear n0_ n1_; (try clear hb); (try clear hb2); (try clear hk); (try clear hi)))
  go_ret
  exact ⟨by first | rfl | (simp [*, errW_none, errW_some] <;> rfl), cB_ HB.out⟩

/-! ### spec_IsSibling: function 96 (given) -/
def spec_IsSibling.f (a0_0 : Int) (a0_1 : Int) (a0_2 : Int) (a1_0 : Int) (a1_1 : Int) (a1_2 : Int) : Option (Bool) := (spec_IdOk.f a0_0 a0_1 a0_2).bind fun t283 => (if t283 = true then ((spec_IdOk.f a1_0 a1_1 a1_2).bind fun t284 => (if t284 = true then (if a0_0 = a1_0 then (if a0_1 = a1_1 then (if (Int.tmod a0_2 2) = 0 then (some (a1_2 == (wrap64 (a0_2 + 1)))) else (some false)) else (some false)) else (some false)) else (some false))) else (some false))
set_option maxHeartbeats 8000000 in
set_option maxRecDepth 100000 in
theorem spec_IsSibling.calls (a0_0 : Int) (a0_1 : Int) (a0_2 : Int) (a1_0 : Int) (a1_1 : Int) (a1_2 : Int) (r : Bool) (w : World) (h : spec_IsSibling.f a0_0 a0_1 a0_2 a1_0 a1_1 a1_2 = some r) :
  Calls Try.prog 96 #[.agg #[.int .i64 a0_0, .int .i64 a0_1, .int .i64 a0_2], .agg #[.int .i64 a1_0, .int .i64 a1_1, .int .i64 a1_2]] w fun e w' => e = .returned (.bool r) ∧ Below w.heap.size w w' := by
  have hu36 := Try.underlying36
  unfold spec_IsSibling.f at h
  obtain ⟨o1, hp, h⟩ := Option.bind_eq_some_iff.1 h
  have key : ∃ o2, (o1 = true → spec_IdOk.f a1_0 a1_1 a1_2 = some o2) ∧ ((o1 = false ∧ false = r) ∨ (o1 = true ∧ o2 = false ∧ false = r) ∨ (o1 = true ∧ o2 = true ∧ (a0_0 == a1_0) = false ∧ false = r) ∨ (o1 = true ∧ o2 = true ∧ (a0_0 == a1_0) = true ∧ (a0_1 == a1_1) = false ∧ false = r) ∨ (o1 = true ∧ o2 = true ∧ (a0_0 == a1_0) = true ∧ (a0_1 == a1_1) = true ∧ ((Int.tmod a0_2 2) == 0) = false ∧ false = r) ∨ (o1 = true ∧ o2 = true ∧ (a0_0 == a1_0) = true ∧ (a0_1 == a1_1) = true ∧ ((Int.tmod a0_2 2) == 0) = true ∧ (a1_2 == (wrap64 (a0_2 + 1))) = r)) := by
    cases o1
    · exact ⟨false, by simp, .inl ⟨rfl, by simpa using h⟩⟩
    · obtain ⟨o2, hq, h⟩ := Option.bind_eq_some_iff.1 (by simpa using h)
      refine ⟨o2, fun _ => hq, ?_⟩
      revert h
      cases o2 <;> (by_cases c0 : a0_0 = a1_0) <;> (by_cases c1 : a0_1 = a1_1) <;> (by_cases c : (Int.tmod a0_2 2) = 0) <;> simp [c0, c1, c]
  obtain ⟨o2, hq, key⟩ := key
  have HP := Aside0.mk hp
  clear h hp
  rcases key with ⟨rfl, rfl⟩ | ⟨rfl, rfl, rfl⟩ | ⟨rfl, rfl, c0, rfl⟩ | ⟨rfl, rfl, c0, c1, rfl⟩ | ⟨rfl, rfl, c0, c1, c2, rfl⟩ | ⟨rfl, rfl, c0, c1, c2, rfl⟩
  all_goals
    try have HQ := Aside0.mk (hq rfl)
    clear hq
    go_enter Try.func96, Try.ntmps96
    go_wp2_with (first
     | ((with_reducible refine gate_dst (N := 2) rfl ?_); refine box_event ?hg (N := 2) ?hd (cs := #[.int .i64 a0_0, .int .i64 a0_1, .int .i64 a0_2]) (t := 36) ?hr ?_; (case hd => rfl); (case hg => rfl); (case hr => first | (go_simp; done) | (go_simp; rfl)); intro gA hg wZ hbox hb; have GEA := Aside0.mk (by rw [hg]; exact Nat.le_refl _ : w.heap.size ≤ gA); have BA := Aside0.mk hbox; have HB := Aside0.mk hb; clear hb hbox hg; have hzA := cells3 BA.out)
     | ((with_reducible refine gate_dst (N := 3) rfl ?_); refine box_event ?hg (N := 3) ?hd (cs := #[.int .i64 a1_0, .int .i64 a1_1, .int .i64 a1_2]) (t := 36) ?hr ?_; (case hd => rfl); (case hg => rfl); (case hr => first | (go_simp; done) | (go_simp; rfl)); intro gB hg w_3 hbox hb; have GEB := Aside0.mk (by rw [hg]; exact HB.out.size : w.heap.size ≤ gB); have NAB := Aside0.mk (by rw [hg]; exact Nat.ne_of_lt (blk_lt BA.out) : gA ≠ gB); have NBA := Aside0.mk (Ne.symm NAB.out); have nAB := NAB.out; have nBA := NBA.out; replace BA := Aside0.mk (blk_below BA.out hb); replace HB := Aside0.mk (below_step HB.out hb); clear hzA hb hg; have BB := Aside0.mk hbox; clear hbox; have hzA := cells3 BA.out; have hzB := cells3 BB.out)
     | ((with_reducible refine gate_dst (N := 6) rfl ?_); refine goesL_ (some 6) rfl rfl Try.func93 (by kernel_rfl) rfl #[.agg #[.int .i64 a0_0, .int .i64 a0_1, .int .i64 a0_2]] rfl (by first | rfl | (simp only [List.map_toArray, List.map_cons, List.map_nil]; rfl)) ?_; refine (spec_IdOk.calls a0_0 a0_1 a0_2 _ _ HP.out).mono ?_; rintro e w6 ⟨rfl, hb⟩; refine ⟨_, rfl, ?_⟩; replace BA := Aside0.mk (blk_below BA.out hb); replace BB := Aside0.mk (blk_below BB.out hb); replace HB := Aside0.mk (below_step HB.out hb); clear hzA hzB hb; have hzA := cells3 BA.out; have hzB := cells3 BB.out)
     | (go_at_call 93; refine (spec_IdOk.calls a1_0 a1_1 a1_2 _ _ HQ.out).mono ?_; rintro e w9 ⟨rfl, hb⟩; replace BA := Aside0.mk (blk_below BA.out hb); replace BB := Aside0.mk (blk_below BB.out hb); replace HB := Aside0.mk (below_step HB.out hb); clear hzA hzB hb; have hzA := cells3 BA.out; have hzB := cells3 BB.out))
    go_ret
    exact ⟨by first | rfl | (simp [*] <;> rfl), HB.out⟩
end Go.Proofs.Ytbkkehjhfgocfaa.PFnTransferred
