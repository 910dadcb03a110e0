/- Written by this repo's own copy of a print: plain functions beneath a law, and the proof that the program computes them; no condition. -/
import Derived.Test.YtbkkehjhfgocfaaPFnTransferredx0
import Derived.Test.YtbkkehjhfgocfaaPFnTransferredx1
import Derived.Test.YtbkkehjhfgocfaaPFnTransferredx6
import Derived.Test.YtbkkehjhfgocfaaPFnTransferredx10
import Derived.Test.YtbkkehjhfgocfaaPFnTransferredx11
namespace Go.Proofs.Ytbkkehjhfgocfaa.PFnTransferred
open Go.RowKit Go.Proofs.YtbkkehjhfgocfaaW.PrintWords Go.Proofs.YtbkkehjhfgocfaaW.PrintLast Go.Proofs.YtbkkehjhfgocfaaW.PrintMore
attribute [local go_sem] max2_int min2_int max_two min_two max_three min_three max_four min_four   -- for this text's walks alone
set_option linter.unusedVariables false
set_option linter.unusedSimpArgs false

attribute [local go_sem high] eqA36
/-! ### spec_TotalTracer: function 19 -/
def spec_TotalTracer.f (k : Nat) (a0_0 : Int) (l0_1 : List (S36)) (l0_2 : List Int) (l0_3 : List Int) (l0_4 : List Int) : Option (Int) := (spec_StateOk.f k a0_0 l0_1 l0_2 l0_3 l0_4).bind fun t453 => (if t453 = true then ((spec_l07Sum.f k l0_3).bind fun t454 => (some t454)) else (some 0))
theorem spec_TotalTracer.mono : ∀ a0 a1 a2 a3 a4 k, LeO (spec_TotalTracer.f k a0 a1 a2 a3 a4) (spec_TotalTracer.f (k + 1) a0 a1 a2 a3 a4) := by
 intro a0 a1 a2 a3 a4 k
 unfold spec_TotalTracer.f
 repeat' first
   | (with_reducible exact spec_StateOk.mono _ _ _ _ _ _)
   | (with_reducible exact spec_l07Sum.mono _ _)
   | (with_reducible exact LeO.refl _)
   | (with_reducible exact LeO.none _)
   | (with_reducible refine LeO.ite ?_ ?_)
   | (with_reducible refine LeO.bind ?_ (fun _ => ?_))
   | exact spec_StateOk.mono _ _ _ _ _ _
   | exact spec_l07Sum.mono _ _
   | exact LeO.none _
   | refine LeO.ite ?_ ?_
   | refine LeO.bind ?_ (fun _ => ?_)
set_option maxHeartbeats 8000000 in
set_option maxRecDepth 100000 in
theorem spec_TotalTracer.calls (k : Nat) (a0_0 : Int) (A0_1 : Option Addr) (c0_1 : Nat) (l0_1 : List (S36)) (A0_2 : Option Addr) (c0_2 : Nat) (l0_2 : List Int) (A0_3 : Option Addr) (c0_3 : Nat) (l0_3 : List Int) (A0_4 : Option Addr) (c0_4 : Nat) (l0_4 : List Int) (r : Int) (w : World) (hr0_1 : Kd.C k36 w A0_1 l0_1.length l0_1) (hc0_1 : l0_1.length ≤ c0_1) (hr0_2 : Kd.C (Kd.int .i64) w A0_2 l0_2.length l0_2) (hc0_2 : l0_2.length ≤ c0_2) (hr0_3 : Kd.C (Kd.int .i64) w A0_3 l0_3.length l0_3) (hc0_3 : l0_3.length ≤ c0_3) (hr0_4 : Kd.C (Kd.int .i64) w A0_4 l0_4.length l0_4) (hc0_4 : l0_4.length ≤ c0_4) (h : spec_TotalTracer.f k a0_0 l0_1 l0_2 l0_3 l0_4 = some r) :
  Calls Try.prog 19 #[.agg #[.int .i64 a0_0, .slice A0_1 l0_1.length c0_1, .slice A0_2 l0_2.length c0_2, .slice A0_3 l0_3.length c0_3, .slice A0_4 l0_4.length c0_4]] w fun e w' => e = .returned (.int .i64 r) ∧ Below w.heap.size w w' := by
 have hu29 := Try.underlying29
 have HR0_1 := Aside0.mk hr0_1
 have HC0_1 := Aside0.mk hc0_1
 clear hr0_1 hc0_1
 have HR0_2 := Aside0.mk hr0_2
 have HC0_2 := Aside0.mk hc0_2
 clear hr0_2 hc0_2
 have HR0_3 := Aside0.mk hr0_3
 have HC0_3 := Aside0.mk hc0_3
 clear hr0_3 hc0_3
 have HR0_4 := Aside0.mk hr0_4
 have HC0_4 := Aside0.mk hc0_4
 clear hr0_4 hc0_4
 have HB := Aside0.mk (Below.refl w.heap.size w)
 have H : ((spec_StateOk.f k a0_0 l0_1 l0_2 l0_3 l0_4).bind fun t453 => (if t453 = true then ((spec_l07Sum.f k l0_3).bind fun t454 => (some t454)) else (some 0))) = some r := h
 clear h
 replace H := Option.bind_eq_some_iff.mp H
 obtain ⟨t453, A20, H⟩ := H
 (try dsimp only at H)
 have A2 := Aside0.mk A20
 clear A20
 by_cases c3 : t453 = true
 ·
  subst c3
  have H1 := H; rw [if_pos rfl] at H1
  clear H
  have H := H1
  clear H1
  replace H := Option.bind_eq_some_iff.mp H
  obtain ⟨t454, A40, H⟩ := H
  replace H : (some t454) = some r := H
  have A4 := Aside0.mk A40
  clear A40
  obtain rfl := Option.some.inj H
  go_enter Try.func19, Try.ntmps19
  go_wp2_with (first | ((with_reducible refine gate_dst (N := 1) rfl ?_); refine bxe_ 1 #[.int .i64 a0_0, .slice A0_1 l0_1.length c0_1, .slice A0_2 l0_2.length c0_2, .slice A0_3 l0_3.length c0_3, .slice A0_4 l0_4.length c0_4] 29 ?_; intro gb452 hg w5 hbox hb; have n0_ := Aside0.mk (bst_ HB.out hb); have n1_ := Aside0.mk (hbox); have n2_ := Aside0.mk (gz_ hg (bsz_ HB.out)); have n3_ := Aside0.mk (gz_ hg (bsz_ HB.out)); clear HB; have HB := n0_; have BK452 := n1_; have GW452 := n2_; have GE452 := n3_; clear n0_ n1_ n2_ n3_; clear hb hbox hg; have hcz6 := cl5_ BK452.out; have hfz6 := fr5_ BK452.out) | ((with_reducible refine gate_callee (f := 17) rfl ?_); refine goesL_ (some 4) rfl rfl Try.func17 (by kernel_rfl) rfl #[.agg #[.int .i64 a0_0, .slice A0_1 l0_1.length c0_1, .slice A0_2 l0_2.length c0_2, .slice A0_3 l0_3.length c0_3, .slice A0_4 l0_4.length c0_4]] rfl (by (try simp only [List.map_toArray, List.map_cons, List.map_nil]); first | done | rfl | (simp only [List.length_drop, List.length_take]; rfl)) ?_; (with_reducible refine (spec_StateOk.calls k a0_0 _ _ l0_1 _ _ l0_2 _ _ l0_3 _ _ l0_4 true _ ?side1 ?side2 ?side3 ?side4 ?side5 ?side6 ?side7 ?side8 A2.out).mono ?_); (case side1 => exact cC_ HR0_1.out HB.out); (case side2 => exact HC0_1.out); (case side3 => exact cC_ HR0_2.out HB.out); (case side4 => exact HC0_2.out); (case side5 => exact cC_ HR0_3.out HB.out); (case side6 => exact HC0_3.out); (case side7 => exact cC_ HR0_4.out HB.out); (case side8 => exact HC0_4.out); rintro e w7 ⟨rfl, hb⟩; refine ⟨_, rfl, ?_⟩; have n0_ := Aside0.mk (blk_bel BK452.out hb); have n1_ := Aside0.mk (cBs_ HB.out hb); clear BK452; clear HB; have BK452 := n0_; have HB := n1_; clear n0_ n1_; (try clear hb); (try clear hb2); (try clear hk); (try clear hi); have hcz8 := cl5_ BK452.out; have hfz8 := fr5_ BK452.out) | ((with_reducible refine gate_callee (f := 54) rfl ?_); refine goesL_ (some 8) rfl rfl Try.func54 (by kernel_rfl) rfl #[.slice A0_3 l0_3.length c0_3] rfl (by (try simp only [List.map_toArray, List.map_cons, List.map_nil]); first | done | rfl | (simp only [List.length_drop, List.length_take]; rfl)) ?_; (with_reducible refine (spec_l07Sum.calls k _ _ l0_3 t454 _ ?side1 ?side2 A4.out).mono ?_); (case side1 => exact cC_ HR0_3.out HB.out); (case side2 => exact HC0_3.out); rintro e w' ⟨rfl, ⟨nd, rfl⟩⟩; refine ⟨_, rfl, ?_⟩))
  go_ret
  exact ⟨by first | rfl | (simp [*, errW_none, errW_some] <;> rfl), cB_ HB.out⟩
 ·
  replace c3 := Bool.eq_false_iff.mpr c3
  subst c3
  have H1 : (some 0) = some r := by rw [if_neg (show ¬ (false = true) by decide)] at H; exact H
  clear H
  have H := H1
  clear H1
  obtain rfl := Option.some.inj H
  go_enter Try.func19, Try.ntmps19
  go_wp2_with (first | ((with_reducible refine gate_dst (N := 1) rfl ?_); refine bxe_ 1 #[.int .i64 a0_0, .slice A0_1 l0_1.length c0_1, .slice A0_2 l0_2.length c0_2, .slice A0_3 l0_3.length c0_3, .slice A0_4 l0_4.length c0_4] 29 ?_; intro gb452 hg w9 hbox hb; have n0_ := Aside0.mk (bst_ HB.out hb); have n1_ := Aside0.mk (hbox); have n2_ := Aside0.mk (gz_ hg (bsz_ HB.out)); have n3_ := Aside0.mk (gz_ hg (bsz_ HB.out)); clear HB; have HB := n0_; have BK452 := n1_; have GW452 := n2_; have GE452 := n3_; clear n0_ n1_ n2_ n3_; clear hb hbox hg; have hcz10 := cl5_ BK452.out; have hfz10 := fr5_ BK452.out) | ((with_reducible refine gate_callee (f := 17) rfl ?_); refine goesL_ (some 4) rfl rfl Try.func17 (by kernel_rfl) rfl #[.agg #[.int .i64 a0_0, .slice A0_1 l0_1.length c0_1, .slice A0_2 l0_2.length c0_2, .slice A0_3 l0_3.length c0_3, .slice A0_4 l0_4.length c0_4]] rfl (by (try simp only [List.map_toArray, List.map_cons, List.map_nil]); first | done | rfl | (simp only [List.length_drop, List.length_take]; rfl)) ?_; (with_reducible refine (spec_StateOk.calls k a0_0 _ _ l0_1 _ _ l0_2 _ _ l0_3 _ _ l0_4 false _ ?side1 ?side2 ?side3 ?side4 ?side5 ?side6 ?side7 ?side8 A2.out).mono ?_); (case side1 => exact cC_ HR0_1.out HB.out); (case side2 => exact HC0_1.out); (case side3 => exact cC_ HR0_2.out HB.out); (case side4 => exact HC0_2.out); (case side5 => exact cC_ HR0_3.out HB.out); (case side6 => exact HC0_3.out); (case side7 => exact cC_ HR0_4.out HB.out); (case side8 => exact HC0_4.out); rintro e w11 ⟨rfl, hb⟩; refine ⟨_, rfl, ?_⟩; have n0_ := Aside0.mk (blk_bel BK452.out hb); have n1_ := Aside0.mk (cBs_ HB.out hb); clear BK452; clear HB; have BK452 := n0_; have HB := n1_; clear n0_ n1_; (try clear hb); (try clear hb2); (try clear hk); (try clear hi)))
  go_ret
  exact ⟨by first | rfl | (simp [*, errW_none, errW_some] <;> rfl), cB_ HB.out⟩

/-! ### three stores into one box -/
abbrev set3 (w : World) (g : Nat) (a b c : Value) : World := ((w.setCell ⟨g, 0, none⟩ a).setCell ⟨g, 1, none⟩ b).setCell ⟨g, 2, none⟩ c
theorem set3_old {w : World} {g : Nat} (a b c : Value) (k : Nat) (h : k ≠ g) : (set3 w g a b c).heap[k]? = w.heap[k]? := by
  simp only [set3, Below.heap_setCell _ _ _ _ (show k ≠ (⟨g, 2, none⟩ : Addr).block from h), Below.heap_setCell _ _ _ _ (show k ≠ (⟨g, 1, none⟩ : Addr).block from h), Below.heap_setCell _ _ _ _ (show k ≠ (⟨g, 0, none⟩ : Addr).block from h)]
theorem set3_here {w : World} {g t : Nat} {x0 x1 x2 : Value} (h : w.heap[g]? = some (.cells #[x0, x1, x2] t (0, 0))) (a b c : Value) : (set3 w g a b c).heap[g]? = some (.cells #[a, b, c] t (0, 0)) := blk_put (blk_put (blk_put h 0 a rfl) 1 b rfl) 2 c rfl
theorem set3_blk {w : World} {g g' : Nat} {o : Obj} (h : w.heap[g']? = some o) (hn : g' ≠ g) {a b c : Value} : (set3 w g a b c).heap[g']? = some o := (set3_old a b c g' hn).trans h
theorem set3_below {w0 w : World} {B g : Nat} (h : Below B w0 w) (hg : B ≤ g) {a b c : Value} : Below B w0 (set3 w g a b c) := ((h.setCell hg a).setCell hg b).setCell hg c
theorem cells3 {w : World} {g t : Nat} {a b c : Value} (h : w.heap[g]? = some (.cells #[a, b, c] t (0, 0))) : w.cell? ⟨g, 0, none⟩ = some a ∧ w.cell? ⟨g, 1, none⟩ = some b ∧ w.cell? ⟨g, 2, none⟩ = some c := ⟨(blk_cell h 0).trans rfl, (blk_cell h 1).trans rfl, (blk_cell h 2).trans rfl⟩
theorem free3 {w : World} {g t : Nat} {cs : Array Value} (h : w.heap[g]? = some (.cells cs t (0, 0))) : w.frozen? ⟨g, 0, none⟩ = false ∧ w.frozen? ⟨g, 1, none⟩ = false ∧ w.frozen? ⟨g, 2, none⟩ = false := ⟨blk_frozen h 0, blk_frozen h 1, blk_frozen h 2⟩
/-! ### impl_ParentOf: function 120 (given) -/
def impl_ParentOf.f (a0_0 : Int) (a0_1 : Int) (a0_2 : Int) : Option (Int × Int × Int × Bool) := (impl_IdOk.f a0_0 a0_1 a0_2).bind fun t162 => (if t162 = true then (if a0_1 = 0 then (some (0, 0, 0, false)) else (some (a0_0, wrap64 (a0_1 - 1), wrap64 (Int.tdiv a0_2 2), true))) else (some (0, 0, 0, false)))
set_option maxHeartbeats 8000000 in
set_option maxRecDepth 100000 in
theorem impl_ParentOf.calls (a0_0 : Int) (a0_1 : Int) (a0_2 : Int) (r1 : Int) (r2 : Int) (r3 : Int) (r4 : Bool) (w : World) (h : impl_ParentOf.f a0_0 a0_1 a0_2 = some (r1, r2, r3, r4)) :
  Calls Try.prog 120 #[.agg #[.int .i64 a0_0, .int .i64 a0_1, .int .i64 a0_2]] w fun e w' => e = .returned (.tuple #[.agg #[.int .i64 r1, .int .i64 r2, .int .i64 r3], .bool r4]) ∧ Below w.heap.size w w' := by
  have hu36 := Try.underlying36
  unfold impl_ParentOf.f at h
  obtain ⟨o, hp, h⟩ := Option.bind_eq_some_iff.1 h
  have key : (o = false ∧ 0 = r1 ∧ 0 = r2 ∧ 0 = r3 ∧ false = r4) ∨ (o = true ∧ (a0_1 == 0) = true ∧ 0 = r1 ∧ 0 = r2 ∧ 0 = r3 ∧ false = r4) ∨ (o = true ∧ (a0_1 == 0) = false ∧ a0_0 = r1 ∧ wrap64 (a0_1 - 1) = r2 ∧ wrap64 (Int.tdiv a0_2 2) = r3 ∧ true = r4) := by
    revert h
    cases o <;> (by_cases c : a0_1 = 0) <;> simp [c]
  have HP := Aside0.mk hp
  clear h hp
  rcases key with ⟨rfl, rfl, rfl, rfl, rfl⟩ | ⟨rfl, c, rfl, rfl, rfl, rfl⟩ | ⟨rfl, c, rfl, rfl, rfl, rfl⟩
  all_goals
    go_enter Try.func120, Try.ntmps120
    go_wp2_with (first
     | ((with_reducible refine gate_dst (N := 1) rfl ?_); refine box_event ?hg (N := 1) ?hd (cs := #[.int .i64 a0_0, .int .i64 a0_1, .int .i64 a0_2]) (t := 36) ?hr ?_; (case hd => rfl); (case hg => rfl); (case hr => first | (go_simp; done) | (go_simp; rfl)); intro gA hg wZ hbox hb; have GEA := Aside0.mk (by rw [hg]; exact Nat.le_refl _ : w.heap.size ≤ gA); have BA := Aside0.mk hbox; have HB := Aside0.mk hb; clear hb hbox hg; have hzA := cells3 BA.out)
     | ((with_reducible refine gate_dst (N := 2) rfl ?_); refine box_event ?hg (N := 2) ?hd (cs := #[.int .i64 0, .int .i64 0, .int .i64 0]) (t := 36) ?hr ?_; (case hd => rfl); (case hg => rfl); (case hr => first | (go_simp; done) | (go_simp; rfl)); intro gR hg w_2 hbox hb; have GER := Aside0.mk (by rw [hg]; exact HB.out.size : w.heap.size ≤ gR); have NAR := Aside0.mk (by rw [hg]; exact Nat.ne_of_lt (blk_lt BA.out) : gA ≠ gR); have NRA := Aside0.mk (Ne.symm NAR.out); have nAR := NAR.out; have nRA := NRA.out; replace BA := Aside0.mk (blk_below BA.out hb); replace HB := Aside0.mk (below_step HB.out hb); clear hzA hb hg; have BR := Aside0.mk hbox; clear hbox; have hzA := cells3 BA.out; have hzR := cells3 BR.out)
     | ((with_reducible refine gate_dst (N := 5) rfl ?_); refine goesL_ (some 5) rfl rfl Try.func105 (by kernel_rfl) rfl #[.agg #[.int .i64 a0_0, .int .i64 a0_1, .int .i64 a0_2]] rfl (by first | rfl | (simp only [List.map_toArray, List.map_cons, List.map_nil]; rfl)) ?_; refine (impl_IdOk.calls a0_0 a0_1 a0_2 _ _ HP.out).mono ?_; rintro e w5 ⟨rfl, hb⟩; refine ⟨_, rfl, ?_⟩; replace BA := Aside0.mk (blk_below BA.out hb); replace BR := Aside0.mk (blk_below BR.out hb); replace HB := Aside0.mk (below_step HB.out hb); have hf := free3 BR.out; clear hzA hzR hb; have hzA := cells3 BA.out; have hzR := cells3 BR.out))
    first
    | (refine bodyPost_ret (results_ct rfl _ _ gR 36 #[.int .i64 0, .int .i64 0, .int .i64 0] (0, 0) _ rfl (set3_here BR.out _ _ _) Try.underlying36 rfl (by kernel_rfl)) rfl ?_; exact ⟨rfl, set3_below HB.out GER.out⟩)
    | (refine bodyPost_ret (results_ct rfl _ _ gR 36 #[.int .i64 a0_0, .int .i64 (wrap64 (a0_1 - 1)), .int .i64 (wrap64 (Int.tdiv a0_2 2))] (0, 0) _ rfl (set3_here BR.out _ _ _) Try.underlying36 rfl (by kernel_rfl)) rfl ?_; exact ⟨rfl, set3_below HB.out GER.out⟩)
/-! ### impl_IsSibling: function 119 (given) -/
def impl_IsSibling.f (a0_0 : Int) (a0_1 : Int) (a0_2 : Int) (a1_0 : Int) (a1_1 : Int) (a1_2 : Int) : Option (Bool) := (impl_ParentOf.f a0_0 a0_1 a0_2).bind fun bt165 => ((impl_ParentOf.f a1_0 a1_1 a1_2).bind fun bt170 => (if bt165.2.2.2 = true then (if bt170.2.2.2 = true then (if (bt165.1 == bt170.1 && (bt165.2.1 == bt170.2.1 && (bt165.2.2.1 == bt170.2.2.1))) = true then (if (Int.tmod a0_2 2) = 0 then (some (a1_2 == (wrap64 (a0_2 + 1)))) else (some false)) else (some false)) else (some false)) else (some false)))
attribute [local go_sem high] eqA36
set_option maxHeartbeats 8000000 in
set_option maxRecDepth 100000 in
theorem impl_IsSibling.calls (a0_0 : Int) (a0_1 : Int) (a0_2 : Int) (a1_0 : Int) (a1_1 : Int) (a1_2 : Int) (r : Bool) (w : World) (h : impl_IsSibling.f a0_0 a0_1 a0_2 a1_0 a1_1 a1_2 = some r) :
  Calls Try.prog 119 #[.agg #[.int .i64 a0_0, .int .i64 a0_1, .int .i64 a0_2], .agg #[.int .i64 a1_0, .int .i64 a1_1, .int .i64 a1_2]] w fun e w' => e = .returned (.bool r) ∧ Below w.heap.size w w' := by
  have hu36 := Try.underlying36
  unfold impl_IsSibling.f at h
  obtain ⟨⟨p0, p1, p2, o1⟩, hp, h⟩ := Option.bind_eq_some_iff.1 h
  obtain ⟨⟨q0, q1, q2, o2⟩, hq, h⟩ := Option.bind_eq_some_iff.1 h
  dsimp only at h
  have key : (o1 = false ∧ false = r) ∨ (o1 = true ∧ o2 = false ∧ false = r) ∨ (o1 = true ∧ o2 = true ∧ (p0 == q0 && (p1 == q1 && (p2 == q2))) = false ∧ false = r) ∨ (o1 = true ∧ o2 = true ∧ (p0 == q0 && (p1 == q1 && (p2 == q2))) = true ∧ ((Int.tmod a0_2 2) == 0) = false ∧ false = r) ∨ (o1 = true ∧ o2 = true ∧ (p0 == q0 && (p1 == q1 && (p2 == q2))) = true ∧ ((Int.tmod a0_2 2) == 0) = true ∧ (a1_2 == (wrap64 (a0_2 + 1))) = r) := by
    revert h
    generalize (p0 == q0 && (p1 == q1 && (p2 == q2))) = E
    cases o1 <;> cases o2 <;> cases E <;> (by_cases c : (Int.tmod a0_2 2) = 0) <;> simp [c]
  have HP := Aside0.mk hp; have HQ := Aside0.mk hq
  clear h hp hq
  rcases key with ⟨rfl, rfl⟩ | ⟨rfl, rfl, rfl⟩ | ⟨rfl, rfl, c7, rfl⟩ | ⟨rfl, rfl, c7, c8, rfl⟩ | ⟨rfl, rfl, c7, c8, rfl⟩
  all_goals
    go_enter Try.func119, Try.ntmps119
    go_wp2_with (first
     | ((with_reducible refine gate_dst (N := 2) rfl ?_); refine box_event ?hg (N := 2) ?hd (cs := #[.int .i64 a0_0, .int .i64 a0_1, .int .i64 a0_2]) (t := 36) ?hr ?_; (case hd => rfl); (case hg => rfl); (case hr => first | (go_simp; done) | (go_simp; rfl)); intro gA hg wZ hbox hb; have GEA := Aside0.mk (by rw [hg]; exact Nat.le_refl _ : w.heap.size ≤ gA); have BA := Aside0.mk hbox; have HB := Aside0.mk hb; clear hb hbox hg; have hzA := cells3 BA.out)
     | ((with_reducible refine gate_dst (N := 3) rfl ?_); refine box_event ?hg (N := 3) ?hd (cs := #[.int .i64 a1_0, .int .i64 a1_1, .int .i64 a1_2]) (t := 36) ?hr ?_; (case hd => rfl); (case hg => rfl); (case hr => first | (go_simp; done) | (go_simp; rfl)); intro gB hg w_3 hbox hb; have GEB := Aside0.mk (by rw [hg]; exact HB.out.size : w.heap.size ≤ gB); have NAB := Aside0.mk (by rw [hg]; exact Nat.ne_of_lt (blk_lt BA.out) : gA ≠ gB); have NBA := Aside0.mk (Ne.symm NAB.out); have nAB := NAB.out; have nBA := NBA.out; replace BA := Aside0.mk (blk_below BA.out hb); replace HB := Aside0.mk (below_step HB.out hb); clear hzA hb hg; have BB := Aside0.mk hbox; clear hbox; have hzA := cells3 BA.out; have hzB := cells3 BB.out)
     | ((with_reducible refine gate_dst (N := 11) rfl ?_); refine goesL_ (some 11) rfl rfl Try.func120 (by kernel_rfl) rfl #[.agg #[.int .i64 a0_0, .int .i64 a0_1, .int .i64 a0_2]] rfl (by first | rfl | (simp only [List.map_toArray, List.map_cons, List.map_nil]; rfl)) ?_; refine (impl_ParentOf.calls a0_0 a0_1 a0_2 p0 p1 p2 _ _ HP.out).mono ?_; rintro e w11 ⟨rfl, hb⟩; refine ⟨_, rfl, ?_⟩; replace BA := Aside0.mk (blk_below BA.out hb); replace BB := Aside0.mk (blk_below BB.out hb); replace HB := Aside0.mk (below_step HB.out hb); clear hzA hzB hb; have hzA := cells3 BA.out; have hzB := cells3 BB.out)
     | ((with_reducible refine gate_dst (N := 5) rfl ?_); refine box_event ?hg (N := 5) ?hd (cs := #[.int .i64 0, .int .i64 0, .int .i64 0]) (t := 36) ?hr ?_; (case hd => rfl); (case hg => rfl); (case hr => first | (go_simp; done) | (go_simp; rfl)); intro gP hg w_5 hbox hb; have GEP := Aside0.mk (by rw [hg]; exact HB.out.size : w.heap.size ≤ gP); have NAP := Aside0.mk (by rw [hg]; exact Nat.ne_of_lt (blk_lt BA.out) : gA ≠ gP); have NPA := Aside0.mk (Ne.symm NAP.out); have nAP := NAP.out; have nPA := NPA.out; have NBP := Aside0.mk (by rw [hg]; exact Nat.ne_of_lt (blk_lt BB.out) : gB ≠ gP); have NPB := Aside0.mk (Ne.symm NBP.out); have nBP := NBP.out; have nPB := NPB.out; replace BA := Aside0.mk (blk_below BA.out hb); replace BB := Aside0.mk (blk_below BB.out hb); replace HB := Aside0.mk (below_step HB.out hb); clear hzA hzB hb hg; have BP := Aside0.mk hbox; clear hbox; have hzA := cells3 BA.out; have hzB := cells3 BB.out; have hzP := cells3 BP.out; have hf := free3 BP.out)
     | ((with_reducible refine gate_dst (N := 16) rfl ?_); refine goesL_ (some 16) rfl rfl Try.func120 (by kernel_rfl) rfl #[.agg #[.int .i64 a1_0, .int .i64 a1_1, .int .i64 a1_2]] rfl (by first | rfl | (simp only [List.map_toArray, List.map_cons, List.map_nil]; rfl)) ?_; refine (impl_ParentOf.calls a1_0 a1_1 a1_2 q0 q1 q2 _ _ HQ.out).mono ?_; rintro e w16 ⟨rfl, hb⟩; refine ⟨_, rfl, ?_⟩; replace BA := Aside0.mk (blk_below (set3_blk BA.out NAP.out) hb); replace BB := Aside0.mk (blk_below (set3_blk BB.out NBP.out) hb); replace BP := Aside0.mk (blk_below (set3_here BP.out _ _ _) hb); replace HB := Aside0.mk (below_step (set3_below HB.out GEP.out) hb); clear hzA hzB hzP hb hf; have hzA := cells3 BA.out; have hzB := cells3 BB.out; have hzP := cells3 BP.out)
     | ((with_reducible refine gate_dst (N := 7) rfl ?_); refine box_event ?hg (N := 7) ?hd (cs := #[.int .i64 0, .int .i64 0, .int .i64 0]) (t := 36) ?hr ?_; (case hd => rfl); (case hg => rfl); (case hr => first | (go_simp; done) | (go_simp; rfl)); intro gQ hg w_7 hbox hb; have GEQ := Aside0.mk (by rw [hg]; exact HB.out.size : w.heap.size ≤ gQ); have NAQ := Aside0.mk (by rw [hg]; exact Nat.ne_of_lt (blk_lt BA.out) : gA ≠ gQ); have NQA := Aside0.mk (Ne.symm NAQ.out); have nAQ := NAQ.out; have nQA := NQA.out; have NBQ := Aside0.mk (by rw [hg]; exact Nat.ne_of_lt (blk_lt BB.out) : gB ≠ gQ); have NQB := Aside0.mk (Ne.symm NBQ.out); have nBQ := NBQ.out; have nQB := NQB.out; have NPQ := Aside0.mk (by rw [hg]; exact Nat.ne_of_lt (blk_lt BP.out) : gP ≠ gQ); have NQP := Aside0.mk (Ne.symm NPQ.out); have nPQ := NPQ.out; have nQP := NQP.out; replace BA := Aside0.mk (blk_below BA.out hb); replace BB := Aside0.mk (blk_below BB.out hb); replace BP := Aside0.mk (blk_below BP.out hb); replace HB := Aside0.mk (below_step HB.out hb); clear hzA hzB hzP hb hg; have BQ := Aside0.mk hbox; clear hbox; have hzA := cells3 BA.out; have hzB := cells3 BB.out; have hzP := cells3 BP.out; have hzQ := cells3 BQ.out; have hf := free3 BQ.out))
    go_ret
    exact ⟨by first | rfl | (simp [*] <;> rfl), set3_below HB.out GEQ.out⟩
end Go.Proofs.Ytbkkehjhfgocfaa.PFnTransferred
