/- Written by this repo's own copy of a print: plain functions beneath a law, and the proof that the program computes them; no condition. -/
import Derived.Test.YtbkkehjhfgocfaaPFnExactPutCellx0
import Derived.Test.YtbkkehjhfgocfaaPFnExactPutCellx3
import Derived.Test.YtbkkehjhfgocfaaPFnExactPutCellx5
namespace Go.Proofs.Ytbkkehjhfgocfaa.PFnExactPutCell
open Go.RowKit Go.Proofs.YtbkkehjhfgocfaaW.PrintWords Go.Proofs.YtbkkehjhfgocfaaW.PrintLast Go.Proofs.YtbkkehjhfgocfaaW.PrintMore
attribute [local go_sem] max2_int min2_int max_two min_two max_three min_three max_four min_four   -- for this text's walks alone
set_option linter.unusedVariables false
set_option linter.unusedSimpArgs false

theorem cell_far5 {W : World} {g : Nat} {a : Addr} {v : Option Value} {u0 u1 u2 u3 u4 : Value} (h : a.block ≠ g) (hc : W.cell? a = v) : (((((W.setCell ⟨g, 0, none⟩ u0).setCell ⟨g, 1, none⟩ u1).setCell ⟨g, 2, none⟩ u2).setCell ⟨g, 3, none⟩ u3).setCell ⟨g, 4, none⟩ u4).cell? a = v := by
  rw [cell_far (p := ⟨g, 4, none⟩) h, cell_far (p := ⟨g, 3, none⟩) h, cell_far (p := ⟨g, 2, none⟩) h, cell_far (p := ⟨g, 1, none⟩) h, cell_far (p := ⟨g, 0, none⟩) h]; exact hc
/-! ### impl_copyMesh: function 74 -/
def impl_copyMesh.f (a0_0 : Int) (l0_1 : List (S36)) : Option (Int × (List (S36))) := (impl_Id.f l0_1).bind fun t228 => (some (a0_0, t228))
set_option maxHeartbeats 8000000 in
set_option maxRecDepth 100000 in
theorem impl_copyMesh.calls (a0_0 : Int) (A0_1 : Option Addr) (c0_1 : Nat) (l0_1 : List (S36)) (r1 : Int) (r2 : List (S36)) (w : World) (hr0_1 : Kd.C k36 w A0_1 l0_1.length l0_1) (hc0_1 : l0_1.length ≤ c0_1) (h : impl_copyMesh.f a0_0 l0_1 = some (r1, r2)) :
  Calls Try.prog 74 #[.agg #[.int .i64 a0_0, .slice A0_1 l0_1.length c0_1]] w fun e w' => ∃ v1_ : Value, e = .returned (.agg #[.int .i64 r1, v1_]) ∧ Kd.R k36 36 w' w.heap.size (fun _ => True) v1_ r2 ∧ Below w.heap.size w w' := by
 have hu26 := Try.underlying26
 have HR0_1 := Aside0.mk hr0_1
 have HC0_1 := Aside0.mk hc0_1
 clear hr0_1 hc0_1
 have HB := Aside0.mk (Below.refl w.heap.size w)
 have H : ((impl_Id.f l0_1).bind fun t228 => (some (a0_0, t228))) = some (r1, r2) := h
 clear h
 replace H := Option.bind_eq_some_iff.mp H
 obtain ⟨t228, A20, H⟩ := H
 replace H : (some (a0_0, t228)) = some (r1, r2) := H
 have A2 := Aside0.mk A20
 clear A20
 simp only [Option.some.injEq, Prod.mk.injEq] at H
 obtain ⟨rfl, rfl⟩ := H
 go_enter Try.func74, Try.ntmps74
 try go_wp2_with (first | ((with_reducible refine gate_dst (N := 1) rfl ?_); refine box_event ?hg (N := 1) ?hd (cs := #[.int .i64 a0_0, .slice A0_1 l0_1.length c0_1]) (t := 26) ?hr ?_; (case hd => rfl); (case hg => rfl); (case hr => first | (go_simp; done) | (go_simp; rfl)); intro gb226 hg w3 hbox hb; have n0_ := Aside0.mk (bst_ HB.out hb); have n1_ := Aside0.mk (hbox); have n2_ := Aside0.mk ((by rw [hg]; exact (bsz_ HB.out) : w.heap.size ≤ gb226)); have n3_ := Aside0.mk ((by rw [hg]; exact (bsz_ HB.out) : w.heap.size ≤ gb226)); clear HB; have HB := n0_; have BK226 := n1_; have GW226 := n2_; have GE226 := n3_; clear n0_ n1_ n2_ n3_; clear hb hbox hg) | ((with_reducible refine gate_dst (N := 2) rfl ?_); refine box_event ?hg (N := 2) ?hd (cs := #[.int .i64 0, .slice none 0 0]) (t := 26) ?hr ?_; (case hd => rfl); (case hg => rfl); (case hr => first | (go_simp; done) | (go_simp; rfl)); intro gb227 hg w4 hbox hb; have n0_ := Aside0.mk (blk_bel BK226.out hb); have n1_ := Aside0.mk (below_step (by repeat (first | (with_reducible first | exact HB.out | apply below_alloc | apply pw_below_drewN | apply below_drew1 | refine below_set ?_ GE226.out) | exact HB.out)) hb); have n2_ := Aside0.mk (hbox); have n3_ := Aside0.mk ((by rw [hg]; exact (below_size (by repeat (first | (with_reducible first | exact HB.out | apply below_alloc | apply pw_below_drewN | apply below_drew1 | refine below_set ?_ GE226.out) | exact HB.out))) : w.heap.size ≤ gb227)); have n4_ := Aside0.mk ((by rw [hg]; exact (below_size (by repeat (first | (with_reducible first | exact HB.out | apply below_alloc | apply pw_below_drewN | apply below_drew1 | refine below_set ?_ GE226.out) | exact HB.out))) : w.heap.size ≤ gb227)); have n5_ := Aside0.mk ((by rw [hg]; exact Nat.ne_of_lt (blk_lt (g := gb226) (o := .cells #[.int .i64 a0_0, .slice A0_1 l0_1.length c0_1] 26 (0, 0)) (by (with_reducible repeat first | apply blk_drewN | apply blk_drew | apply blk_alloc); exact BK226.out)) : gb226 ≠ gb227)); have n6_ := Aside0.mk ((by rw [hg]; exact Nat.ne_of_gt (blk_lt (g := gb226) (o := .cells #[.int .i64 a0_0, .slice A0_1 l0_1.length c0_1] 26 (0, 0)) (by (with_reducible repeat first | apply blk_drewN | apply blk_drew | apply blk_alloc); exact BK226.out)) : gb227 ≠ gb226)); clear BK226; clear HB; have BK226 := n0_; have HB := n1_; have BK227 := n2_; have GW227 := n3_; have GE227 := n4_; have NB226_227 := n5_; have NB227_226 := n6_; clear n0_ n1_ n2_ n3_ n4_ n5_ n6_; clear hb hbox hg))
 have n0_ := Aside0.mk (blk_drew BK226.out)
 have n1_ := Aside0.mk (blk_drew BK227.out)
 have n2_ := Aside0.mk (below_drew1 HB.out)
 clear BK226
 clear BK227
 clear HB
 have BK226 := n0_
 have BK227 := n1_
 have HB := n2_
 clear n0_ n1_ n2_
 refine start_ (n := 7) (S := fun w' => w'.cell? ⟨gb226, 0, none⟩ = some (.int .i64 a0_0) ∧ w'.cell? ⟨gb226, 1, none⟩ = some (.slice A0_1 l0_1.length c0_1)) (ds := []) #[false, false, false, false, false, false, false] (by kernel_rfl) rfl rfl ⟨(blk_cell BK226.out 0).trans rfl, (blk_cell BK226.out 1).trans rfl⟩ (fun hHeld => ?_)
 generalize w4.drew = w5 at BK226 BK227 HB hHeld ⊢
 refine pure_ (i := 0) (N := some 3) (v := ?_) (a' := ?_) #[true, false, false, false, false, false, false] rfl rfl (by kernel_rfl) (fun _ _ _ h => h) (Or.inl ⟨by rfl, ?_⟩) ?_ ?_
 rotate_left
 ·
  intro w'
  go_simp
  with_reducible rfl
 rotate_left
 ·
  simp only [Act.put, q1_, q2_, q3_, i64_w, i32_w]
  rfl
 refine pure_ (i := 2) (N := some 5) (v := ?_) (a' := ?_) #[true, false, true, false, false, false, false] rfl rfl (by kernel_rfl) (fun _ _ _ h => h) (Or.inl ⟨by rfl, ?_⟩) ?_ ?_
 rotate_left
 ·
  intro w'
  go_simp
  with_reducible rfl
 rotate_left
 ·
  simp only [Act.put, q1_, q2_, q3_, i64_w, i32_w]
  rfl
 refine take_ (i := 1) (N := some 4) (v := ?_) (a' := ?_) #[true, true, true, false, false, false, false] rfl rfl (by kernel_rfl) (fun _ _ _ h => h) (Or.inl ⟨by rfl, ?_⟩) hHeld ?_ ?_
 rotate_left
 ·
  rintro w' ⟨s0, s1⟩
  go_simp
  with_reducible rfl
 rotate_left
 ·
  simp only [Act.put, q1_, q2_, q3_, i64_w, i32_w]
  rfl
 refine take_ (i := 3) (N := some 6) (v := ?_) (a' := ?_) #[true, true, true, true, false, false, false] rfl rfl (by kernel_rfl) (fun _ _ _ h => h) (Or.inl ⟨by rfl, ?_⟩) hHeld ?_ ?_
 rotate_left
 ·
  rintro w' ⟨s0, s1⟩
  go_simp
  with_reducible rfl
 rotate_left
 ·
  simp only [Act.put, q1_, q2_, q3_, i64_w, i32_w]
  rfl
 refine one_ (i := 4) (N := some 7) #[true, true, true, true, true, false, false] rfl rfl (by kernel_rfl) (by decide) (fun K hK => ?_)
 refine goes_ Try.func109 (by kernel_rfl) rfl #[.slice A0_1 l0_1.length c0_1] (by rfl) rfl rfl (by (try simp only [List.map_toArray, List.map_cons, List.map_nil]); first | done | rfl | (simp only [List.length_drop, List.length_take]; rfl)) ?_
 with_reducible refine (impl_Id.calls _ _ l0_1 t228 _ ?side1 ?side2 A2.out).mono ?_
 (case side1 => repeat (first | exact (Kd.C_below HR0_1.out HB.out) | (with_reducible refine Kd.C_alloc ?_ _) | (with_reducible refine Kd.C_drewN ?_ _) | (with_reducible refine Kd.C_drew ?_)))
 (case side2 => exact HC0_1.out)
 rintro e w6 ⟨v229, rfl, ho0, hb⟩
 refine ⟨_, rfl, ?_⟩
 have n0_ := Aside0.mk (Kd.R_lower ho0 (below_size (by repeat (first | (with_reducible first | exact HB.out | apply below_alloc | apply pw_below_drewN | apply below_drew1 | refine below_set ?_ GE226.out | refine below_set ?_ GE227.out) | exact HB.out))))
 have n1_ := Aside0.mk (blk_bel BK226.out hb)
 have n2_ := Aside0.mk (blk_bel BK227.out hb)
 have n3_ := Aside0.mk (below_step (by repeat (first | (with_reducible first | exact HB.out | apply below_alloc | apply pw_below_drewN | apply below_drew1 | refine below_set ?_ GE226.out | refine below_set ?_ GE227.out) | exact HB.out)) hb)
 clear BK226
 clear BK227
 clear HB
 have HO230 := n0_
 have BK226 := n1_
 have BK227 := n2_
 have HB := n3_
 clear n0_ n1_ n2_ n3_
 (try clear hb)
 (try clear hb2)
 (try clear hk)
 (try clear hi)
 (try clear ho0)
 obtain ⟨Ao7, co7, eo7⟩ := Kd.R_slice HO230.out
 (first | subst eo7 | (injection eo7 with f1_ f2_ f3_; have f4_ := f1_.symm; have f5_ := f3_.symm; clear f1_ f2_ f3_; subst f4_; subst f5_))
 refine hK.out _ _ ⟨(blk_cell BK226.out 0).trans rfl, (blk_cell BK226.out 1).trans rfl⟩ (fun hHeld => ?_)
 clear hK K
 refine norm_ (a' := ?_) ?_ ?_
 rotate_left
 ·
  show Act.put _ (some 7) _ = _
  simp only [Act.put, q1_, q2_, q3_, i64_w, i32_w]
  rfl
 refine pure_ (i := 5) (N := some 8) (v := ?_) (a' := ?_) #[true, true, true, true, true, true, false] rfl rfl (by kernel_rfl) (fun _ _ _ h => h) (Or.inl ⟨by rfl, ?_⟩) ?_ ?_
 rotate_left
 ·
  intro w'
  go_simp
  with_reducible rfl
 rotate_left
 ·
  simp only [Act.put, q1_, q2_, q3_, i64_w, i32_w]
  rfl
 refine one_ (i := 6) (N := none) #[true, true, true, true, true, true, true] rfl rfl (by kernel_rfl) (by decide) (fun K hK => ?_)
 have hs8 : w6.cell? ⟨gb227, 0, none⟩ = some (.int .i64 0) := (blk_cell BK227.out 0).trans rfl
 have hfs8 := blk_frozen BK227.out 0
 have hns8_0 := NB226_227.out
 have hms8_0 := NB227_226.out
 have hs9 : w6.cell? ⟨gb227, 1, none⟩ = some (.slice none 0 0) := (blk_cell BK227.out 1).trans rfl
 have hfs9 := blk_frozen BK227.out 1
 have hns9_0 := NB226_227.out
 have hms9_0 := NB227_226.out
 refine skip_ (w1 := ?_) (by rfl) rfl ?_ ?_
 rotate_left
 ·
  go_simp
  rfl
 refine hK.out _ _ ⟨((cell_far (p := ⟨gb227, _, none⟩) NB226_227.out _).trans (((cell_far (p := ⟨gb227, _, none⟩) NB226_227.out _).trans (hHeld.1)))), ((cell_far (p := ⟨gb227, _, none⟩) NB226_227.out _).trans (((cell_far (p := ⟨gb227, _, none⟩) NB226_227.out _).trans (hHeld.2))))⟩ (fun hHeld => ?_)
 clear hK K
 refine done_ (by kernel_rfl) ?_
 try go_wp2
 refine bodyPost_ret (results_cell_row rfl _ _ gb227 26 #[.int .i64 a0_0, .slice Ao7 t228.length co7] (0, 0) _ rfl (by (with_reducible repeat first | apply blk_drewN | apply blk_drew | apply blk_alloc); refine blk_put (cs := #[.int .i64 a0_0, .slice none 0 0]) ?_ 1 _ rfl; (with_reducible repeat first | apply blk_drewN | apply blk_drew | apply blk_alloc); refine blk_put (cs := #[.int .i64 0, .slice none 0 0]) ?_ 0 _ rfl; (with_reducible repeat first | apply blk_drewN | apply blk_drew | apply blk_alloc); exact BK227.out) Try.underlying26 rfl (by kernel_rfl)) rfl ?_
 exact ⟨_, by first | rfl | (simp [*, errW_none, errW_some] <;> rfl), by (with_reducible repeat first | apply Kd.R_alloc | apply Kd.R_drewN | apply Kd.R_drew); exact Kd.R_mono (Kd.R_far (p := ⟨gb227, 1, none⟩) (Kd.R_far (p := ⟨gb227, 0, none⟩) (Kd.R_types HO230.out BK227.out (by decide)) (fun _ hk => hk.2) (.int .i64 a0_0)) (fun _ hk => hk.2) (.slice Ao7 t228.length co7)) (fun _ hk => trivial), by repeat (first | (with_reducible first | exact HB.out | apply below_alloc | apply pw_below_drewN | apply below_drew1 | refine below_set ?_ GE226.out | refine below_set ?_ GE227.out) | exact HB.out)⟩

/-! ### slices_Clone_int_int: function 75 (given) -/
def slices_Clone_int_int.f (l0 : List Int) : Option (List Int) := if l0.length < 5864062014805 then some l0 else none
set_option maxHeartbeats 8000000 in
set_option maxRecDepth 100000 in
theorem slices_Clone_int_int.calls (A0 : Option Addr) (c0 : Nat) (l0 : List Int) (r1 : List Int) (w : World) (hr0 : Kd.C (Kd.int .i64) w A0 l0.length l0) (hc0 : l0.length ≤ c0) (h : slices_Clone_int_int.f l0 = some r1) :
    Calls Try.prog 75 #[.slice A0 l0.length c0] w fun e w' => ∃ v_ : Value, e = .returned v_ ∧ Kd.R (Kd.int .i64) 3 w' w.heap.size (fun _ => True) v_ r1 ∧ Below w.heap.size w w' := by
  unfold slices_Clone_int_int.f at h
  by_cases c : l0.length < 5864062014805
  · rw [if_pos c] at h
    obtain rfl := Option.some.inj h
    clear h
    cases A0 with
    | none =>
      have hz : l0.length = 0 := by
        obtain ⟨_, _, h3⟩ := hr0
        rcases Nat.eq_zero_or_pos l0.length with h | h
        · exact h
        · obtain ⟨ad, e, _⟩ := h3 h
          cases e
      obtain rfl : l0 = [] := List.length_eq_zero_iff.1 hz
      have en : ∀ w, (binOp .eql 27 (.slice none 0 c0) (.slice none 0 0)).run Try.prog w = .ok (.bool true) w := fun w => Lib.run_eql_slice_nil w 27 3 none 0 c0 0 0 Try.underlying27
      go_enter Try.func75, Try.ntmps75
      go_wp2
      go_ret
      exact ⟨_, rfl, Kd.R_nil _ _ _ _ _, by repeat (first | exact Below.refl _ _ | apply pw_below_drewN | apply below_drew1)⟩
    | some ad =>
      have HR := Aside0.mk hr0
      have HB := Aside0.mk (Below.refl w.heap.size w)
      clear hr0
      have en : ∀ w, (binOp .eql 27 (.slice (some ad) l0.length c0) (.slice none 0 0)).run Try.prog w = .ok (.bool false) w := fun w => Lib.run_eql_slice_nil w 27 3 (some ad) l0.length c0 0 0 Try.underlying27
      go_enter Try.func75, Try.ntmps75
      go_wp2_with (first
        | ((with_reducible refine gate_dst (N := 5) rfl ?_); refine Kd.R_lit (Kd.int .i64) _ 3 ?hg (N := 5) ?hd (xs := ([] : List Int)) (inner := []) (ok := fun _ => True) (okp := fun _ => True) ?hr ?hp (fun _ hk => hk) trivial (Below.refl _ _) (Nat.le_refl _) (by simp) ?_
           (case hd => rfl)
           (case hg => rfl)
           (case hr => first | (go_simp; done) | (go_simp; rfl))
           (case hp => exact (Reps.none _ _))
           intro v1 W ho hb _ _
           have HB1 := Aside0.mk hb
           have HO1 := Aside0.mk ho
           clear ho hb)
        | ((with_reducible refine gate_builtin (b := .append) (xs := #[.tmp 5, .tmp 6]) rfl ?_); at_builtin
           refine Kd.R_append_rows (Kd.int .i64) (w0 := w) w.heap.size rfl (.tmp 5) (.tmp 6) 27 3 (.int .i64 0) 8 rfl Try.underlying27 info3 rfl (by decide) (by omega) v1 [] l0 _ _ _ (fun _ => True) (fun _ => False) rfl rfl ?aO ?aR (fun _ _ h => h) (fun _ h => h.elim) ?aF ?aB ?aS ?aL ?_
           (case aR => exact Kd.C_below HR.out HB1.out)
           (case aB => exact HB1.out)
           (case aF => exact (fun _ _ => trivial))
           (case aO => exact HO1.out)
           (case aS => exact HB1.out.size)
           (case aL => simp; omega)
           intro v2 W2 ho hb _ _
           have HB2 := Aside0.mk hb
           have HO2 := Aside0.mk ho
           clear ho hb))
      go_wp2
      go_ret
      exact ⟨_, rfl, by simpa using HO2.out, HB2.out⟩
  · rw [if_neg c] at h; cases h

/-! ### impl_copyState: function 48 -/
def impl_copyState.f (a0_0 : Int) (l0_1 : List (S36)) (l0_2 : List Int) (l0_3 : List Int) (l0_4 : List Int) : Option (Int × (List (S36)) × List Int × List Int × List Int) := (impl_copyMesh.f a0_0 l0_1).bind fun bt233 => ((slices_Clone_int_int.f l0_2).bind fun t237 => ((slices_Clone_int_int.f l0_3).bind fun t240 => ((slices_Clone_int_int.f l0_4).bind fun t243 => (some (bt233.1, bt233.2, t237, t240, t243)))))
def impl_copyState.T1 : Bool × List (List Nat × List Nat) := (true, [([], []), ([0], [0]), ([1], [1]), ([], []), ([3], [3]), ([4, 2], [4]), ([], []), ([6], [6]), ([7, 5], [7]), ([], []), ([9], [9]), ([10, 8], [10]), ([2, 5, 8, 11], [2, 5, 8, 11]), ([12, 11, 0, 1, 2, 3, 4, 5, 6, 7, 8, 9, 10, 11, 12], [12])])
def impl_copyState.B1 : List Nat := [0, 1, 3, 0, 8, 31, 0, 64, 255, 0, 512, 2047, 4095, 8191]
theorem impl_copyState.tab1 : rtab .any (opsOf Try.f48 1) = impl_copyState.T1 := by kernel_rfl
theorem impl_copyState.bits1 : waitsOk impl_copyState.T1.2 impl_copyState.B1 = true := by kernel_rfl
set_option maxHeartbeats 8000000 in
set_option maxRecDepth 100000 in
theorem impl_copyState.calls (a0_0 : Int) (A0_1 : Option Addr) (c0_1 : Nat) (l0_1 : List (S36)) (A0_2 : Option Addr) (c0_2 : Nat) (l0_2 : List Int) (A0_3 : Option Addr) (c0_3 : Nat) (l0_3 : List Int) (A0_4 : Option Addr) (c0_4 : Nat) (l0_4 : List Int) (r1 : Int) (r2 : List (S36)) (r3 : List Int) (r4 : List Int) (r5 : List Int) (w : World) (hr0_1 : Kd.C k36 w A0_1 l0_1.length l0_1) (hc0_1 : l0_1.length ≤ c0_1) (hr0_2 : Kd.C (Kd.int .i64) w A0_2 l0_2.length l0_2) (hc0_2 : l0_2.length ≤ c0_2) (hr0_3 : Kd.C (Kd.int .i64) w A0_3 l0_3.length l0_3) (hc0_3 : l0_3.length ≤ c0_3) (hr0_4 : Kd.C (Kd.int .i64) w A0_4 l0_4.length l0_4) (hc0_4 : l0_4.length ≤ c0_4) (h : impl_copyState.f a0_0 l0_1 l0_2 l0_3 l0_4 = some (r1, r2, r3, r4, r5)) :
  Calls Try.prog 48 #[.agg #[.int .i64 a0_0, .slice A0_1 l0_1.length c0_1, .slice A0_2 l0_2.length c0_2, .slice A0_3 l0_3.length c0_3, .slice A0_4 l0_4.length c0_4]] w fun e w' => ∃ v1_ v2_ v3_ v4_ : Value, e = .returned (.agg #[.int .i64 r1, v1_, v2_, v3_, v4_]) ∧ Kd.R k36 36 w' w.heap.size (fun _ => True) v1_ r2 ∧ Kd.R (Kd.int .i64) 3 w' w.heap.size (fun k_ => some k_ ≠ (v3_ : Value).ownBlock ∧ some k_ ≠ (v4_ : Value).ownBlock) v2_ r3 ∧ Kd.R (Kd.int .i64) 3 w' w.heap.size (fun k_ => some k_ ≠ (v2_ : Value).ownBlock ∧ some k_ ≠ (v4_ : Value).ownBlock) v3_ r4 ∧ Kd.R (Kd.int .i64) 3 w' w.heap.size (fun k_ => some k_ ≠ (v2_ : Value).ownBlock ∧ some k_ ≠ (v3_ : Value).ownBlock) v4_ r5 ∧ Below w.heap.size w w' := by
 have hu29 := Try.underlying29
 have hu26 := Try.underlying26
 have HR0_1 := Aside0.mk hr0_1
 have HC0_1 := Aside0.mk hc0_1
 clear hr0_1 hc0_1
 have HR0_2 := Aside0.mk hr0_2
 have HC0_2 := Aside0.mk hc0_2
 clear hr0_2 hc0_2
 have HR0_3 := Aside0.mk hr0_3
 have HC0_3 := Aside0.mk hc0_3
 clear hr0_3 hc0_3
 have HR0_4 := Aside0.mk hr0_4
 have HC0_4 := Aside0.mk hc0_4
 clear hr0_4 hc0_4
 have HB := Aside0.mk (Below.refl w.heap.size w)
 have H : ((impl_copyMesh.f a0_0 l0_1).bind fun bt233 => ((slices_Clone_int_int.f l0_2).bind fun t237 => ((slices_Clone_int_int.f l0_3).bind fun t240 => ((slices_Clone_int_int.f l0_4).bind fun t243 => (some (bt233.1, bt233.2, t237, t240, t243)))))) = some (r1, r2, r3, r4, r5) := h
 clear h
 replace H := Option.bind_eq_some_iff.mp H
 obtain ⟨⟨t233, t234⟩, A20, H⟩ := H
 (try dsimp only at H)
 have A2 := Aside0.mk A20
 clear A20
 replace H := Option.bind_eq_some_iff.mp H
 obtain ⟨t237, A30, H⟩ := H
 (try dsimp only at H)
 have A3 := Aside0.mk A30
 clear A30
 replace H := Option.bind_eq_some_iff.mp H
 obtain ⟨t240, A40, H⟩ := H
 (try dsimp only at H)
 have A4 := Aside0.mk A40
 clear A40
 replace H := Option.bind_eq_some_iff.mp H
 obtain ⟨t243, A50, H⟩ := H
 (try dsimp only at H)
 have A5 := Aside0.mk A50
 clear A50
 simp only [Option.some.injEq, Prod.mk.injEq] at H
 obtain ⟨rfl, rfl, rfl, rfl, rfl⟩ := H
 go_enter Try.func48, Try.ntmps48
 try go_wp2_with (first | ((with_reducible refine gate_dst (N := 1) rfl ?_); refine box_event ?hg (N := 1) ?hd (cs := #[.int .i64 a0_0, .slice A0_1 l0_1.length c0_1, .slice A0_2 l0_2.length c0_2, .slice A0_3 l0_3.length c0_3, .slice A0_4 l0_4.length c0_4]) (t := 29) ?hr ?_; (case hd => rfl); (case hg => rfl); (case hr => first | (go_simp; done) | (go_simp; rfl)); intro gb231 hg w6 hbox hb; have n0_ := Aside0.mk (bst_ HB.out hb); have n1_ := Aside0.mk (hbox); have n2_ := Aside0.mk ((by rw [hg]; exact (bsz_ HB.out) : w.heap.size ≤ gb231)); have n3_ := Aside0.mk ((by rw [hg]; exact (bsz_ HB.out) : w.heap.size ≤ gb231)); clear HB; have HB := n0_; have BK231 := n1_; have GW231 := n2_; have GE231 := n3_; clear n0_ n1_ n2_ n3_; clear hb hbox hg) | ((with_reducible refine gate_dst (N := 2) rfl ?_); refine box_event ?hg (N := 2) ?hd (cs := #[.int .i64 0, .slice none 0 0, .slice none 0 0, .slice none 0 0, .slice none 0 0]) (t := 29) ?hr ?_; (case hd => rfl); (case hg => rfl); (case hr => first | (go_simp; done) | (go_simp; rfl)); intro gb232 hg w7 hbox hb; have n0_ := Aside0.mk (blk_bel BK231.out hb); have n1_ := Aside0.mk (below_step (by repeat (first | (with_reducible first | exact HB.out | apply below_alloc | apply pw_below_drewN | apply below_drew1 | refine below_set ?_ GE231.out) | exact HB.out)) hb); have n2_ := Aside0.mk (hbox); have n3_ := Aside0.mk ((by rw [hg]; exact (below_size (by repeat (first | (with_reducible first | exact HB.out | apply below_alloc | apply pw_below_drewN | apply below_drew1 | refine below_set ?_ GE231.out) | exact HB.out))) : w.heap.size ≤ gb232)); have n4_ := Aside0.mk ((by rw [hg]; exact (below_size (by repeat (first | (with_reducible first | exact HB.out | apply below_alloc | apply pw_below_drewN | apply below_drew1 | refine below_set ?_ GE231.out) | exact HB.out))) : w.heap.size ≤ gb232)); have n5_ := Aside0.mk ((by rw [hg]; exact Nat.ne_of_lt (blk_lt (g := gb231) (o := .cells #[.int .i64 a0_0, .slice A0_1 l0_1.length c0_1, .slice A0_2 l0_2.length c0_2, .slice A0_3 l0_3.length c0_3, .slice A0_4 l0_4.length c0_4] 29 (0, 0)) (by (with_reducible repeat first | apply blk_drewN | apply blk_drew | apply blk_alloc); exact BK231.out)) : gb231 ≠ gb232)); have n6_ := Aside0.mk ((by rw [hg]; exact Nat.ne_of_gt (blk_lt (g := gb231) (o := .cells #[.int .i64 a0_0, .slice A0_1 l0_1.length c0_1, .slice A0_2 l0_2.length c0_2, .slice A0_3 l0_3.length c0_3, .slice A0_4 l0_4.length c0_4] 29 (0, 0)) (by (with_reducible repeat first | apply blk_drewN | apply blk_drew | apply blk_alloc); exact BK231.out)) : gb232 ≠ gb231)); clear BK231; clear HB; have BK231 := n0_; have HB := n1_; have BK232 := n2_; have GW232 := n3_; have GE232 := n4_; have NB231_232 := n5_; have NB232_231 := n6_; clear n0_ n1_ n2_ n3_ n4_ n5_ n6_; clear hb hbox hg))
 have n0_ := Aside0.mk (blk_drew BK231.out)
 have n1_ := Aside0.mk (blk_drew BK232.out)
 have n2_ := Aside0.mk (below_drew1 HB.out)
 clear BK231
 clear BK232
 clear HB
 have BK231 := n0_
 have BK232 := n1_
 have HB := n2_
 clear n0_ n1_ n2_
 refine start_ (n := 14) (S := fun w' => w'.cell? ⟨gb231, 0, none⟩ = some (.int .i64 a0_0) ∧ w'.cell? ⟨gb231, 1, none⟩ = some (.slice A0_1 l0_1.length c0_1) ∧ w'.cell? ⟨gb231, 2, none⟩ = some (.slice A0_2 l0_2.length c0_2) ∧ w'.cell? ⟨gb231, 3, none⟩ = some (.slice A0_3 l0_3.length c0_3) ∧ w'.cell? ⟨gb231, 4, none⟩ = some (.slice A0_4 l0_4.length c0_4)) (ds := []) #[N_,N_,N_,N_,N_,N_,N_,N_,N_,N_,N_,N_,N_,N_] (by kernel_rfl) rfl rfl ⟨(blk_cell BK231.out 0).trans rfl, (blk_cell BK231.out 1).trans rfl, (blk_cell BK231.out 2).trans rfl, (blk_cell BK231.out 3).trans rfl, (blk_cell BK231.out 4).trans rfl⟩ (fun hHeld => ?_); refine with_tabW impl_copyState.tab1 impl_copyState.bits1 (fun HT_ HW_ => ?_)
 generalize w7.drew = w8 at BK231 BK232 HB hHeld ⊢
 refine pure_ (i := 0) (N := some 3) (v := ?_) (a' := ?_) #[Y_,N_,N_,N_,N_,N_,N_,N_,N_,N_,N_,N_,N_,N_] rfl rfl (any_of HT_.out (by kernel_rfl)) (fun _ _ _ h => h) (Or.inl ⟨by rfl, ?_⟩) ?_ ?_
 rotate_left
 ·
  intro w'
  go_simp
  with_reducible rfl
 rotate_left
 ·
  simp only [Act.put, q1_, q2_, q3_, i64_w, i32_w]
  rfl
 refine pure_ (i := 3) (N := some 6) (v := ?_) (a' := ?_) #[Y_,N_,N_,Y_,N_,N_,N_,N_,N_,N_,N_,N_,N_,N_] rfl rfl (any_of HT_.out (by kernel_rfl)) (fun _ _ _ h => h) (Or.inl ⟨by rfl, ?_⟩) ?_ ?_
 rotate_left
 ·
  intro w'
  go_simp
  with_reducible rfl
 rotate_left
 ·
  simp only [Act.put, q1_, q2_, q3_, i64_w, i32_w]
  rfl
 refine pure_ (i := 6) (N := some 9) (v := ?_) (a' := ?_) #[Y_,N_,N_,Y_,N_,N_,Y_,N_,N_,N_,N_,N_,N_,N_] rfl rfl (any_of HT_.out (by kernel_rfl)) (fun _ _ _ h => h) (Or.inl ⟨by rfl, ?_⟩) ?_ ?_
 rotate_left
 ·
  intro w'
  go_simp
  with_reducible rfl
 rotate_left
 ·
  simp only [Act.put, q1_, q2_, q3_, i64_w, i32_w]
  rfl
 refine pure_ (i := 9) (N := some 12) (v := ?_) (a' := ?_) #[Y_,N_,N_,Y_,N_,N_,Y_,N_,N_,Y_,N_,N_,N_,N_] rfl rfl (any_of HT_.out (by kernel_rfl)) (fun _ _ _ h => h) (Or.inl ⟨by rfl, ?_⟩) ?_ ?_
 rotate_left
 ·
  intro w'
  go_simp
  with_reducible rfl
 rotate_left
 ·
  simp only [Act.put, q1_, q2_, q3_, i64_w, i32_w]
  rfl
 refine take_ (i := 1) (N := some 4) (v := ?_) (a' := ?_) #[Y_,Y_,N_,Y_,N_,N_,Y_,N_,N_,Y_,N_,N_,N_,N_] rfl rfl (take_ofW HT_.out HW_.out (by kernel_rfl)) (fun _ _ _ h => h) (Or.inl ⟨by rfl, ?_⟩) hHeld ?_ ?_
 rotate_left
 ·
  rintro w' ⟨s0, s1, s2, s3, s4⟩
  go_simp
  with_reducible rfl
 rotate_left
 ·
  simp only [Act.put, q1_, q2_, q3_, i64_w, i32_w]
  rfl
 refine take_ (i := 4) (N := some 7) (v := ?_) (a' := ?_) #[Y_,Y_,N_,Y_,Y_,N_,Y_,N_,N_,Y_,N_,N_,N_,N_] rfl rfl (take_ofW HT_.out HW_.out (by kernel_rfl)) (fun _ _ _ h => h) (Or.inl ⟨by rfl, ?_⟩) hHeld ?_ ?_
 rotate_left
 ·
  rintro w' ⟨s0, s1, s2, s3, s4⟩
  go_simp
  with_reducible rfl
 rotate_left
 ·
  simp only [Act.put, q1_, q2_, q3_, i64_w, i32_w]
  rfl
 refine take_ (i := 7) (N := some 10) (v := ?_) (a' := ?_) #[Y_,Y_,N_,Y_,Y_,N_,Y_,Y_,N_,Y_,N_,N_,N_,N_] rfl rfl (take_ofW HT_.out HW_.out (by kernel_rfl)) (fun _ _ _ h => h) (Or.inl ⟨by rfl, ?_⟩) hHeld ?_ ?_
 rotate_left
 ·
  rintro w' ⟨s0, s1, s2, s3, s4⟩
  go_simp
  with_reducible rfl
 rotate_left
 ·
  simp only [Act.put, q1_, q2_, q3_, i64_w, i32_w]
  rfl
 refine take_ (i := 10) (N := some 13) (v := ?_) (a' := ?_) #[Y_,Y_,N_,Y_,Y_,N_,Y_,Y_,N_,Y_,Y_,N_,N_,N_] rfl rfl (take_ofW HT_.out HW_.out (by kernel_rfl)) (fun _ _ _ h => h) (Or.inl ⟨by rfl, ?_⟩) hHeld ?_ ?_
 rotate_left
 ·
  rintro w' ⟨s0, s1, s2, s3, s4⟩
  go_simp
  with_reducible rfl
 rotate_left
 ·
  simp only [Act.put, q1_, q2_, q3_, i64_w, i32_w]
  rfl
 refine one_ (i := 2) (N := some 5) #[Y_,Y_,Y_,Y_,Y_,N_,Y_,Y_,N_,Y_,Y_,N_,N_,N_] rfl rfl (one_of HT_.out (by kernel_rfl)) (by decide) (fun K hK => ?_)
 refine goes_ Try.func74 (by kernel_rfl) rfl #[.agg #[.int .i64 a0_0, .slice A0_1 l0_1.length c0_1]] (by rfl) rfl rfl (by (try simp only [List.map_toArray, List.map_cons, List.map_nil]); first | done | rfl | (simp only [List.length_drop, List.length_take]; rfl)) ?_
 with_reducible refine (impl_copyMesh.calls a0_0 _ _ l0_1 t233 t234 _ ?side1 ?side2 A2.out).mono ?_
 (case side1 => repeat (first | exact (Kd.C_below HR0_1.out HB.out) | (with_reducible refine Kd.C_alloc ?_ _) | (with_reducible refine Kd.C_drewN ?_ _) | (with_reducible refine Kd.C_drew ?_)))
 (case side2 => exact HC0_1.out)
 rintro e w9 ⟨v235, rfl, ho0, hb⟩
 refine ⟨_, rfl, ?_⟩
 have n0_ := Aside0.mk (Kd.R_lower ho0 (below_size (by repeat (first | (with_reducible first | exact HB.out | apply below_alloc | apply pw_below_drewN | apply below_drew1 | refine below_set ?_ GE231.out | refine below_set ?_ GE232.out) | exact HB.out))))
 have n1_ := Aside0.mk (blk_bel BK231.out hb)
 have n2_ := Aside0.mk (blk_bel BK232.out hb)
 have n3_ := Aside0.mk (below_step (by repeat (first | (with_reducible first | exact HB.out | apply below_alloc | apply pw_below_drewN | apply below_drew1 | refine below_set ?_ GE231.out | refine below_set ?_ GE232.out) | exact HB.out)) hb)
 clear BK231
 clear BK232
 clear HB
 have HO236 := n0_
 have BK231 := n1_
 have BK232 := n2_
 have HB := n3_
 clear n0_ n1_ n2_ n3_
 (try clear hb)
 (try clear hb2)
 (try clear hk)
 (try clear hi)
 (try clear ho0)
 refine hK.out _ _ ⟨(blk_cell BK231.out 0).trans rfl, (blk_cell BK231.out 1).trans rfl, (blk_cell BK231.out 2).trans rfl, (blk_cell BK231.out 3).trans rfl, (blk_cell BK231.out 4).trans rfl⟩ (fun hHeld => ?_)
 clear hK K
 refine norm_ (a' := ?_) ?_ ?_
 rotate_left
 ·
  show Act.put _ (some 5) _ = _
  simp only [Act.put, q1_, q2_, q3_, i64_w, i32_w]
  rfl
 refine one_ (i := 5) (N := some 8) #[Y_,Y_,Y_,Y_,Y_,Y_,Y_,Y_,N_,Y_,Y_,N_,N_,N_] rfl rfl (one_of HT_.out (by kernel_rfl)) (by decide) (fun K hK => ?_)
 refine goes_ Try.func75 (by kernel_rfl) rfl #[.slice A0_2 l0_2.length c0_2] (by rfl) rfl rfl (by (try simp only [List.map_toArray, List.map_cons, List.map_nil]); first | done | rfl | (simp only [List.length_drop, List.length_take]; rfl)) ?_
 with_reducible refine (slices_Clone_int_int.calls _ _ l0_2 t237 _ ?side1 ?side2 A3.out).mono ?_
 (case side1 => repeat (first | exact (Kd.C_below HR0_2.out HB.out) | (with_reducible refine Kd.C_alloc ?_ _) | (with_reducible refine Kd.C_drewN ?_ _) | (with_reducible refine Kd.C_drew ?_)))
 (case side2 => exact HC0_2.out)
 rintro e w10 ⟨v238, rfl, ho0, hb⟩
 refine ⟨_, rfl, ?_⟩
 have n0_ := Aside0.mk (R_bel HO236.out hb)
 have n1_ := Aside0.mk (Kd.R_lower ho0 (below_size (by repeat (first | (with_reducible first | exact HB.out | apply below_alloc | apply pw_below_drewN | apply below_drew1 | refine below_set ?_ GE231.out | refine below_set ?_ GE232.out) | exact HB.out))))
 have n2_ := Aside0.mk (blk_bel BK231.out hb)
 have n3_ := Aside0.mk (blk_bel BK232.out hb)
 have n4_ := Aside0.mk (below_step (by repeat (first | (with_reducible first | exact HB.out | apply below_alloc | apply pw_below_drewN | apply below_drew1 | refine below_set ?_ GE231.out | refine below_set ?_ GE232.out) | exact HB.out)) hb)
 clear HO236
 clear BK231
 clear BK232
 clear HB
 have HO236 := n0_
 have HO239 := n1_
 have BK231 := n2_
 have BK232 := n3_
 have HB := n4_
 clear n0_ n1_ n2_ n3_ n4_
 (try clear hb)
 (try clear hb2)
 (try clear hk)
 (try clear hi)
 (try clear ho0)
 refine hK.out _ _ ⟨(blk_cell BK231.out 0).trans rfl, (blk_cell BK231.out 1).trans rfl, (blk_cell BK231.out 2).trans rfl, (blk_cell BK231.out 3).trans rfl, (blk_cell BK231.out 4).trans rfl⟩ (fun hHeld => ?_)
 clear hK K
 refine norm_ (a' := ?_) ?_ ?_
 rotate_left
 ·
  show Act.put _ (some 8) _ = _
  simp only [Act.put, q1_, q2_, q3_, i64_w, i32_w]
  rfl
 refine one_ (i := 8) (N := some 11) #[Y_,Y_,Y_,Y_,Y_,Y_,Y_,Y_,Y_,Y_,Y_,N_,N_,N_] rfl rfl (one_of HT_.out (by kernel_rfl)) (by decide) (fun K hK => ?_)
 refine goes_ Try.func75 (by kernel_rfl) rfl #[.slice A0_3 l0_3.length c0_3] (by rfl) rfl rfl (by (try simp only [List.map_toArray, List.map_cons, List.map_nil]); first | done | rfl | (simp only [List.length_drop, List.length_take]; rfl)) ?_
 with_reducible refine (slices_Clone_int_int.calls _ _ l0_3 t240 _ ?side1 ?side2 A4.out).mono ?_
 (case side1 => repeat (first | exact (Kd.C_below HR0_3.out HB.out) | (with_reducible refine Kd.C_alloc ?_ _) | (with_reducible refine Kd.C_drewN ?_ _) | (with_reducible refine Kd.C_drew ?_)))
 (case side2 => exact HC0_3.out)
 rintro e w11 ⟨v241, rfl, ho0, hb⟩
 refine ⟨_, rfl, ?_⟩
 have n0_ := Aside0.mk (R_bel HO236.out hb)
 have n1_ := Aside0.mk (Kd.R_elder' (by (with_reducible repeat first | apply Kd.R_alloc | apply Kd.R_drewN | apply Kd.R_drew); exact HO239.out) (Kd.R_base ho0) hb)
 have n2_ := Aside0.mk (Kd.R_lower (Kd.R_new' ho0 (Kd.R_lt (by (with_reducible repeat first | apply Kd.R_alloc | apply Kd.R_drewN | apply Kd.R_drew); exact HO239.out))) (below_size (by repeat (first | (with_reducible first | exact HB.out | apply below_alloc | apply pw_below_drewN | apply below_drew1 | refine below_set ?_ GE231.out | refine below_set ?_ GE232.out) | exact HB.out))))
 have n3_ := Aside0.mk (blk_bel BK231.out hb)
 have n4_ := Aside0.mk (blk_bel BK232.out hb)
 have n5_ := Aside0.mk (below_step (by repeat (first | (with_reducible first | exact HB.out | apply below_alloc | apply pw_below_drewN | apply below_drew1 | refine below_set ?_ GE231.out | refine below_set ?_ GE232.out) | exact HB.out)) hb)
 clear HO236
 clear HO239
 clear BK231
 clear BK232
 clear HB
 have HO236 := n0_
 have HO239 := n1_
 have HO242 := n2_
 have BK231 := n3_
 have BK232 := n4_
 have HB := n5_
 clear n0_ n1_ n2_ n3_ n4_ n5_
 (try clear hb)
 (try clear hb2)
 (try clear hk)
 (try clear hi)
 (try clear ho0)
 refine hK.out _ _ ⟨(blk_cell BK231.out 0).trans rfl, (blk_cell BK231.out 1).trans rfl, (blk_cell BK231.out 2).trans rfl, (blk_cell BK231.out 3).trans rfl, (blk_cell BK231.out 4).trans rfl⟩ (fun hHeld => ?_)
 clear hK K
 refine norm_ (a' := ?_) ?_ ?_
 rotate_left
 ·
  show Act.put _ (some 11) _ = _
  simp only [Act.put, q1_, q2_, q3_, i64_w, i32_w]
  rfl
 refine one_ (i := 11) (N := some 14) #[Y_,Y_,Y_,Y_,Y_,Y_,Y_,Y_,Y_,Y_,Y_,Y_,N_,N_] rfl rfl (one_of HT_.out (by kernel_rfl)) (by decide) (fun K hK => ?_)
 refine goes_ Try.func75 (by kernel_rfl) rfl #[.slice A0_4 l0_4.length c0_4] (by rfl) rfl rfl (by (try simp only [List.map_toArray, List.map_cons, List.map_nil]); first | done | rfl | (simp only [List.length_drop, List.length_take]; rfl)) ?_
 with_reducible refine (slices_Clone_int_int.calls _ _ l0_4 t243 _ ?side1 ?side2 A5.out).mono ?_
 (case side1 => repeat (first | exact (Kd.C_below HR0_4.out HB.out) | (with_reducible refine Kd.C_alloc ?_ _) | (with_reducible refine Kd.C_drewN ?_ _) | (with_reducible refine Kd.C_drew ?_)))
 (case side2 => exact HC0_4.out)
 rintro e w12 ⟨v244, rfl, ho0, hb⟩
 refine ⟨_, rfl, ?_⟩
 have n0_ := Aside0.mk (R_bel HO236.out hb)
 have n1_ := Aside0.mk (Kd.R_elder' (by (with_reducible repeat first | apply Kd.R_alloc | apply Kd.R_drewN | apply Kd.R_drew); exact HO239.out) (Kd.R_base ho0) hb)
 have n2_ := Aside0.mk (Kd.R_elder' (by (with_reducible repeat first | apply Kd.R_alloc | apply Kd.R_drewN | apply Kd.R_drew); exact HO242.out) (Kd.R_base ho0) hb)
 have n3_ := Aside0.mk (Kd.R_lower (Kd.R_new' (Kd.R_new' ho0 (Kd.R_lt (by (with_reducible repeat first | apply Kd.R_alloc | apply Kd.R_drewN | apply Kd.R_drew); exact HO239.out))) (Kd.R_lt (by (with_reducible repeat first | apply Kd.R_alloc | apply Kd.R_drewN | apply Kd.R_drew); exact HO242.out))) (below_size (by repeat (first | (with_reducible first | exact HB.out | apply below_alloc | apply pw_below_drewN | apply below_drew1 | refine below_set ?_ GE231.out | refine below_set ?_ GE232.out) | exact HB.out))))
 have n4_ := Aside0.mk (blk_bel BK231.out hb)
 have n5_ := Aside0.mk (blk_bel BK232.out hb)
 have n6_ := Aside0.mk (below_step (by repeat (first | (with_reducible first | exact HB.out | apply below_alloc | apply pw_below_drewN | apply below_drew1 | refine below_set ?_ GE231.out | refine below_set ?_ GE232.out) | exact HB.out)) hb)
 clear HO236
 clear HO239
 clear HO242
 clear BK231
 clear BK232
 clear HB
 have HO236 := n0_
 have HO239 := n1_
 have HO242 := n2_
 have HO245 := n3_
 have BK231 := n4_
 have BK232 := n5_
 have HB := n6_
 clear n0_ n1_ n2_ n3_ n4_ n5_ n6_
 (try clear hb)
 (try clear hb2)
 (try clear hk)
 (try clear hi)
 (try clear ho0)
 obtain ⟨Ao13, co13, eo13⟩ := Kd.R_slice HO245.out
 (first | subst eo13 | (injection eo13 with f1_ f2_ f3_; have f4_ := f1_.symm; have f5_ := f3_.symm; clear f1_ f2_ f3_; subst f4_; subst f5_))
 obtain ⟨Ao14, co14, eo14⟩ := Kd.R_slice HO242.out
 (first | subst eo14 | (injection eo14 with f1_ f2_ f3_; have f4_ := f1_.symm; have f5_ := f3_.symm; clear f1_ f2_ f3_; subst f4_; subst f5_))
 obtain ⟨Ao15, co15, eo15⟩ := Kd.R_slice HO239.out
 (first | subst eo15 | (injection eo15 with f1_ f2_ f3_; have f4_ := f1_.symm; have f5_ := f3_.symm; clear f1_ f2_ f3_; subst f4_; subst f5_))
 obtain ⟨Ao16, co16, eo16⟩ := Kd.R_slice HO236.out
 (first | subst eo16 | (injection eo16 with f1_ f2_ f3_; have f4_ := f1_.symm; have f5_ := f3_.symm; clear f1_ f2_ f3_; subst f4_; subst f5_))
 refine hK.out _ _ ⟨(blk_cell BK231.out 0).trans rfl, (blk_cell BK231.out 1).trans rfl, (blk_cell BK231.out 2).trans rfl, (blk_cell BK231.out 3).trans rfl, (blk_cell BK231.out 4).trans rfl⟩ (fun hHeld => ?_)
 clear hK K
 refine norm_ (a' := ?_) ?_ ?_
 rotate_left
 ·
  show Act.put _ (some 14) _ = _
  simp only [Act.put, q1_, q2_, q3_, i64_w, i32_w]
  rfl
 refine pure_ (i := 12) (N := some 15) (v := ?_) (a' := ?_) #[Y_,Y_,Y_,Y_,Y_,Y_,Y_,Y_,Y_,Y_,Y_,Y_,Y_,N_] rfl rfl (any_of HT_.out (by kernel_rfl)) (fun _ _ _ h => h) (Or.inl ⟨by rfl, ?_⟩) ?_ ?_
 rotate_left
 ·
  intro w'
  go_simp
  with_reducible rfl
 rotate_left
 ·
  simp only [Act.put, q1_, q2_, q3_, i64_w, i32_w]
  rfl
 refine one_ (i := 13) (N := none) #[Y_,Y_,Y_,Y_,Y_,Y_,Y_,Y_,Y_,Y_,Y_,Y_,Y_,Y_] rfl rfl (one_of HT_.out (by kernel_rfl)) (by decide) (fun K hK => ?_)
 have hs17 : w12.cell? ⟨gb232, 0, none⟩ = some (.int .i64 0) := (blk_cell BK232.out 0).trans rfl
 have hfs17 := blk_frozen BK232.out 0
 have hns17_0 := NB231_232.out
 have hms17_0 := NB232_231.out
 have hs18 : w12.cell? ⟨gb232, 1, none⟩ = some (.slice none 0 0) := (blk_cell BK232.out 1).trans rfl
 have hfs18 := blk_frozen BK232.out 1
 have hns18_0 := NB231_232.out
 have hms18_0 := NB232_231.out
 have hs19 : w12.cell? ⟨gb232, 2, none⟩ = some (.slice none 0 0) := (blk_cell BK232.out 2).trans rfl
 have hfs19 := blk_frozen BK232.out 2
 have hns19_0 := NB231_232.out
 have hms19_0 := NB232_231.out
 have hs20 : w12.cell? ⟨gb232, 3, none⟩ = some (.slice none 0 0) := (blk_cell BK232.out 3).trans rfl
 have hfs20 := blk_frozen BK232.out 3
 have hns20_0 := NB231_232.out
 have hms20_0 := NB232_231.out
 have hs21 : w12.cell? ⟨gb232, 4, none⟩ = some (.slice none 0 0) := (blk_cell BK232.out 4).trans rfl
 have hfs21 := blk_frozen BK232.out 4
 have hns21_0 := NB231_232.out
 have hms21_0 := NB232_231.out
 refine skip_ (w1 := ?_) (by rfl) rfl ?_ ?_
 rotate_left
 ·
  go_simp
  rfl
 refine hK.out _ _ ⟨cell_far5 (g := gb232) NB231_232.out (hHeld.1), cell_far5 (g := gb232) NB231_232.out (hHeld.2.1), cell_far5 (g := gb232) NB231_232.out (hHeld.2.2.1), cell_far5 (g := gb232) NB231_232.out (hHeld.2.2.2.1), cell_far5 (g := gb232) NB231_232.out (hHeld.2.2.2.2)⟩ (fun hHeld => ?_)
 clear hK K
 refine done_ (done_of HT_.out (by kernel_rfl)) ?_
 try go_wp2
 refine bodyPost_ret (results_cell_row rfl _ _ gb232 29 #[.int .i64 t233, .slice Ao16 t234.length co16, .slice Ao15 t237.length co15, .slice Ao14 t240.length co14, .slice Ao13 t243.length co13] (0, 0) _ rfl (by (with_reducible repeat first | apply blk_drewN | apply blk_drew | apply blk_alloc); refine blk_put (cs := #[.int .i64 t233, .slice Ao16 t234.length co16, .slice Ao15 t237.length co15, .slice Ao14 t240.length co14, .slice none 0 0]) ?_ 4 _ rfl; (with_reducible repeat first | apply blk_drewN | apply blk_drew | apply blk_alloc); refine blk_put (cs := #[.int .i64 t233, .slice Ao16 t234.length co16, .slice Ao15 t237.length co15, .slice none 0 0, .slice none 0 0]) ?_ 3 _ rfl; (with_reducible repeat first | apply blk_drewN | apply blk_drew | apply blk_alloc); refine blk_put (cs := #[.int .i64 t233, .slice Ao16 t234.length co16, .slice none 0 0, .slice none 0 0, .slice none 0 0]) ?_ 2 _ rfl; (with_reducible repeat first | apply blk_drewN | apply blk_drew | apply blk_alloc); refine blk_put (cs := #[.int .i64 t233, .slice none 0 0, .slice none 0 0, .slice none 0 0, .slice none 0 0]) ?_ 1 _ rfl; (with_reducible repeat first | apply blk_drewN | apply blk_drew | apply blk_alloc); refine blk_put (cs := #[.int .i64 0, .slice none 0 0, .slice none 0 0, .slice none 0 0, .slice none 0 0]) ?_ 0 _ rfl; (with_reducible repeat first | apply blk_drewN | apply blk_drew | apply blk_alloc); exact BK232.out) Try.underlying29 rfl (by kernel_rfl)) rfl ?_
 exact ⟨_, _, _, _, by first | rfl | (simp [*, errW_none, errW_some] <;> rfl), by (with_reducible repeat first | apply Kd.R_alloc | apply Kd.R_drewN | apply Kd.R_drew); exact Kd.R_mono (Kd.R_far (p := ⟨gb232, 4, none⟩) (Kd.R_far (p := ⟨gb232, 3, none⟩) (Kd.R_far (p := ⟨gb232, 2, none⟩) (Kd.R_far (p := ⟨gb232, 1, none⟩) (Kd.R_far (p := ⟨gb232, 0, none⟩) (Kd.R_types HO236.out BK232.out (by decide)) (fun _ hk => hk.2) (.int .i64 t233)) (fun _ hk => hk.2) (.slice Ao16 t234.length co16)) (fun _ hk => hk.2) (.slice Ao15 t237.length co15)) (fun _ hk => hk.2) (.slice Ao14 t240.length co14)) (fun _ hk => hk.2) (.slice Ao13 t243.length co13)) (fun _ hk => trivial), by (with_reducible repeat first | apply Kd.R_alloc | apply Kd.R_drewN | apply Kd.R_drew); exact Kd.R_mono (Kd.R_far (p := ⟨gb232, 4, none⟩) (Kd.R_far (p := ⟨gb232, 3, none⟩) (Kd.R_far (p := ⟨gb232, 2, none⟩) (Kd.R_far (p := ⟨gb232, 1, none⟩) (Kd.R_far (p := ⟨gb232, 0, none⟩) (Kd.R_types HO239.out BK232.out (by decide)) (fun _ hk => hk.2) (.int .i64 t233)) (fun _ hk => hk.2) (.slice Ao16 t234.length co16)) (fun _ hk => hk.2) (.slice Ao15 t237.length co15)) (fun _ hk => hk.2) (.slice Ao14 t240.length co14)) (fun _ hk => hk.2) (.slice Ao13 t243.length co13)) (fun _ hk => ⟨hk.1.1.2, hk.1.2⟩), by (with_reducible repeat first | apply Kd.R_alloc | apply Kd.R_drewN | apply Kd.R_drew); exact Kd.R_mono (Kd.R_far (p := ⟨gb232, 4, none⟩) (Kd.R_far (p := ⟨gb232, 3, none⟩) (Kd.R_far (p := ⟨gb232, 2, none⟩) (Kd.R_far (p := ⟨gb232, 1, none⟩) (Kd.R_far (p := ⟨gb232, 0, none⟩) (Kd.R_types HO242.out BK232.out (by decide)) (fun _ hk => hk.2) (.int .i64 t233)) (fun _ hk => hk.2) (.slice Ao16 t234.length co16)) (fun _ hk => hk.2) (.slice Ao15 t237.length co15)) (fun _ hk => hk.2) (.slice Ao14 t240.length co14)) (fun _ hk => hk.2) (.slice Ao13 t243.length co13)) (fun _ hk => ⟨hk.1.1.2, hk.1.2⟩), by (with_reducible repeat first | apply Kd.R_alloc | apply Kd.R_drewN | apply Kd.R_drew); exact Kd.R_mono (Kd.R_far (p := ⟨gb232, 4, none⟩) (Kd.R_far (p := ⟨gb232, 3, none⟩) (Kd.R_far (p := ⟨gb232, 2, none⟩) (Kd.R_far (p := ⟨gb232, 1, none⟩) (Kd.R_far (p := ⟨gb232, 0, none⟩) (Kd.R_types HO245.out BK232.out (by decide)) (fun _ hk => hk.2) (.int .i64 t233)) (fun _ hk => hk.2) (.slice Ao16 t234.length co16)) (fun _ hk => hk.2) (.slice Ao15 t237.length co15)) (fun _ hk => hk.2) (.slice Ao14 t240.length co14)) (fun _ hk => hk.2) (.slice Ao13 t243.length co13)) (fun _ hk => ⟨hk.1.1.2, hk.1.2⟩), by repeat (first | (with_reducible first | exact HB.out | apply below_alloc | apply pw_below_drewN | apply below_drew1 | refine below_set ?_ GE231.out | refine below_set ?_ GE232.out) | exact HB.out)⟩

/-! ### impl_Mesh_has: function 78 -/
def impl_Mesh_has.f (a0_0 : Int) (l0_1 : List (S36)) (a1 : Int) : Option (Bool) := (impl_within.f a1 0 (wrap64 ((l0_1.length : Int) - 1))).bind fun t247 => (some t247)
set_option maxHeartbeats 8000000 in
set_option maxRecDepth 100000 in
theorem impl_Mesh_has.calls (a0_0 : Int) (A0_1 : Option Addr) (c0_1 : Nat) (l0_1 : List (S36)) (a1 : Int) (r : Bool) (w : World) (hr0_1 : Kd.C k36 w A0_1 l0_1.length l0_1) (hc0_1 : l0_1.length ≤ c0_1) (h : impl_Mesh_has.f a0_0 l0_1 a1 = some r) :
  Calls Try.prog 78 #[.agg #[.int .i64 a0_0, .slice A0_1 l0_1.length c0_1], .int .i64 a1] w fun e w' => e = .returned (.bool r) ∧ Below w.heap.size w w' := by
 have hu26 := Try.underlying26
 have HR0_1 := Aside0.mk hr0_1
 have HC0_1 := Aside0.mk hc0_1
 clear hr0_1 hc0_1
 have HB := Aside0.mk (Below.refl w.heap.size w)
 have H : ((impl_within.f a1 0 (wrap64 ((l0_1.length : Int) - 1))).bind fun t247 => (some t247)) = some r := h
 clear h
 replace H := Option.bind_eq_some_iff.mp H
 obtain ⟨t247, A30, H⟩ := H
 replace H : (some t247) = some r := H
 have A3 := Aside0.mk A30
 clear A30
 obtain rfl := Option.some.inj H
 go_enter Try.func78, Try.ntmps78
 go_wp2_with (first | ((with_reducible refine gate_dst (N := 2) rfl ?_); refine box_event ?hg (N := 2) ?hd (cs := #[.int .i64 a0_0, .slice A0_1 l0_1.length c0_1]) (t := 26) ?hr ?_; (case hd => rfl); (case hg => rfl); (case hr => first | (go_simp; done) | (go_simp; rfl)); intro gb246 hg w4 hbox hb; have n0_ := Aside0.mk (bst_ HB.out hb); have n1_ := Aside0.mk (hbox); have n2_ := Aside0.mk ((by rw [hg]; exact (bsz_ HB.out) : w.heap.size ≤ gb246)); have n3_ := Aside0.mk ((by rw [hg]; exact (bsz_ HB.out) : w.heap.size ≤ gb246)); clear HB; have HB := n0_; have BK246 := n1_; have GW246 := n2_; have GE246 := n3_; clear n0_ n1_ n2_ n3_; clear hb hbox hg; have hcz5_0 : w4.cell? ⟨gb246, 0, none⟩ = some (.int .i64 a0_0) := (blk_cell BK246.out 0).trans rfl; have hcz5_1 : w4.cell? ⟨gb246, 1, none⟩ = some (.slice A0_1 l0_1.length c0_1) := (blk_cell BK246.out 1).trans rfl; have hfz5_0 := blk_frozen BK246.out 0; have hfz5_1 := blk_frozen BK246.out 1) | ((with_reducible refine gate_callee (f := 70) rfl ?_); refine goesL_ (some 10) rfl rfl Try.func70 (by kernel_rfl) rfl #[.int .i64 a1, .int .i64 0, .int .i64 (wrap64 ((l0_1.length : Int) - 1))] rfl (by (try simp only [List.map_toArray, List.map_cons, List.map_nil]); first | done | rfl | (simp only [List.length_drop, List.length_take]; rfl)) ?_; (with_reducible refine (impl_within.calls a1 0 (wrap64 ((l0_1.length : Int) - 1)) t247 _ A3.out).mono ?_); rintro e w' ⟨rfl, ⟨nd, rfl⟩⟩; refine ⟨_, rfl, ?_⟩))
 go_ret
 exact ⟨by first | rfl | (simp [*, errW_none, errW_some] <;> rfl), by repeat (first | (with_reducible first | exact HB.out | apply below_alloc | apply pw_below_drewN | apply below_drew1 | refine below_set ?_ GE246.out) | exact HB.out)⟩

/-! ### impl_PutCell: function 34 (given) -/
def impl_PutCell.f (k : Nat) (a0_0 : Int) (l0_1 : List (S36)) (l0_2 l0_3 l0_4 : List Int) (a1 a2 a3 : Int) : Option (Int × (List (S36)) × List Int × List Int × List Int × Bool) :=
  (impl_copyState.f a0_0 l0_1 l0_2 l0_3 l0_4).bind fun c => (impl_StateOk.f k a0_0 l0_1 l0_2 l0_3 l0_4).bind fun t => if t = true then
    ((impl_Mesh_has.f a0_0 l0_1 a1).bind fun t2 => if t2 = true then
      (if 0 ≤ a1 then (if a1 < (c.2.2.1.length : Int) then (if a1 < (c.2.2.2.1.length : Int) then
        ((impl_StateOk.f k c.1 c.2.1 (c.2.2.1.set a1.toNat a2) (c.2.2.2.1.set a1.toNat a3) c.2.2.2.2).bind fun t3 => if t3 = true then some (c.1, c.2.1, c.2.2.1.set a1.toNat a2, c.2.2.2.1.set a1.toNat a3, c.2.2.2.2, true)
          else some (c.1, c.2.1, c.2.2.1, c.2.2.2.1, c.2.2.2.2, false)) else none) else none) else none)
      else some (c.1, c.2.1, c.2.2.1, c.2.2.2.1, c.2.2.2.2, false)) else some (c.1, c.2.1, c.2.2.1, c.2.2.2.1, c.2.2.2.2, false)
theorem impl_PutCell.mono : ∀ a0 a1 a2 a3 a4 a5 a6 a7 k, LeO (impl_PutCell.f k a0 a1 a2 a3 a4 a5 a6 a7) (impl_PutCell.f (k + 1) a0 a1 a2 a3 a4 a5 a6 a7) := by
  intro a0 a1 a2 a3 a4 a5 a6 a7 k
  unfold impl_PutCell.f
  exact LeO.bind (LeO.refl _) (fun _ => LeO.bind (impl_StateOk.mono _ _ _ _ _ _) (fun _ => LeO.ite (LeO.bind (LeO.refl _) (fun _ => LeO.ite (LeO.ite (LeO.ite (LeO.ite (LeO.bind (impl_StateOk.mono _ _ _ _ _ _) (fun _ => LeO.refl _)) (LeO.refl _)) (LeO.refl _)) (LeO.refl _)) (LeO.refl _))) (LeO.refl _)))
set_option maxHeartbeats 8000000 in
set_option maxRecDepth 100000 in
theorem impl_PutCell.calls (k : Nat) (a0_0 : Int) (A0_1 : Option Addr) (c0_1 : Nat) (l0_1 : List (S36)) (A0_2 : Option Addr) (c0_2 : Nat) (l0_2 : List Int) (A0_3 : Option Addr) (c0_3 : Nat) (l0_3 : List Int) (A0_4 : Option Addr) (c0_4 : Nat) (l0_4 : List Int) (a1 : Int) (a2 : Int) (a3 : Int) (r1 : Int) (r2 : List (S36)) (r3 : List Int) (r4 : List Int) (r5 : List Int) (r6 : Bool) (w : World) (hr0_1 : Kd.C k36 w A0_1 l0_1.length l0_1) (hc0_1 : l0_1.length ≤ c0_1) (hr0_2 : Kd.C (Kd.int .i64) w A0_2 l0_2.length l0_2) (hc0_2 : l0_2.length ≤ c0_2) (hr0_3 : Kd.C (Kd.int .i64) w A0_3 l0_3.length l0_3) (hc0_3 : l0_3.length ≤ c0_3) (hr0_4 : Kd.C (Kd.int .i64) w A0_4 l0_4.length l0_4) (hc0_4 : l0_4.length ≤ c0_4) (h : impl_PutCell.f k a0_0 l0_1 l0_2 l0_3 l0_4 a1 a2 a3 = some (r1, r2, r3, r4, r5, r6)) :
    Calls Try.prog 34 #[.agg #[.int .i64 a0_0, .slice A0_1 l0_1.length c0_1, .slice A0_2 l0_2.length c0_2, .slice A0_3 l0_3.length c0_3, .slice A0_4 l0_4.length c0_4], .int .i64 a1, .int .i64 a2, .int .i64 a3] w fun e w' => ∃ v1_ v2_ v3_ v4_ : Value, e = .returned (.tuple #[.agg #[.int .i64 r1, v1_, v2_, v3_, v4_], .bool r6]) ∧ Kd.R k36 36 w' w.heap.size (fun _ => True) v1_ r2 ∧ Kd.R (Kd.int .i64) 3 w' w.heap.size (fun k_ => some k_ ≠ (v3_ : Value).ownBlock ∧ some k_ ≠ (v4_ : Value).ownBlock) v2_ r3 ∧ Kd.R (Kd.int .i64) 3 w' w.heap.size (fun k_ => some k_ ≠ (v2_ : Value).ownBlock ∧ some k_ ≠ (v4_ : Value).ownBlock) v3_ r4 ∧ Kd.R (Kd.int .i64) 3 w' w.heap.size (fun k_ => some k_ ≠ (v2_ : Value).ownBlock ∧ some k_ ≠ (v3_ : Value).ownBlock) v4_ r5 ∧ Below w.heap.size w w' := by
  have hu29 := Try.underlying29
  obtain ⟨⟨t1, t2, t3, t4, t5⟩, hcopy, h⟩ := Option.bind_eq_some_iff.1 h
  obtain ⟨m1, hok, h⟩ := Option.bind_eq_some_iff.1 h
  have HC := Aside0.mk hcopy
  have HK := Aside0.mk hok
  have HR1 := Aside0.mk hr0_1
  have HR2 := Aside0.mk hr0_2
  have HR3 := Aside0.mk hr0_3
  have HR4 := Aside0.mk hr0_4
  have HP1 := Aside0.mk (blk_alloc (blk_new w (.cells #[.int .i64 a0_0, .slice A0_1 l0_1.length c0_1, .slice A0_2 l0_2.length c0_2, .slice A0_3 l0_3.length c0_3, .slice A0_4 l0_4.length c0_4] 29)) (.cells #[.int .i64 0, .slice none 0 0, .slice none 0 0, .slice none 0 0, .slice none 0 0] 29))
  have HZ1 := Aside0.mk (show ((w.alloc (.cells #[.int .i64 a0_0, .slice A0_1 l0_1.length c0_1, .slice A0_2 l0_2.length c0_2, .slice A0_3 l0_3.length c0_3, .slice A0_4 l0_4.length c0_4] 29)).alloc (.cells #[.int .i64 0, .slice none 0 0, .slice none 0 0, .slice none 0 0, .slice none 0 0] 29)).heap[w.heap.size + 1]? = some (.cells #[.int .i64 0, .slice none 0 0, .slice none 0 0, .slice none 0 0, .slice none 0 0] 29 (0, 0)) by rw [show w.heap.size + 1 = (w.alloc (.cells #[.int .i64 a0_0, .slice A0_1 l0_1.length c0_1, .slice A0_2 l0_2.length c0_2, .slice A0_3 l0_3.length c0_3, .slice A0_4 l0_4.length c0_4] 29)).heap.size by simp]; exact blk_new _ _)
  have HB1 := Aside0.mk (below_alloc (below_alloc (Below.refl w.heap.size w) (.cells #[.int .i64 a0_0, .slice A0_1 l0_1.length c0_1, .slice A0_2 l0_2.length c0_2, .slice A0_3 l0_3.length c0_3, .slice A0_4 l0_4.length c0_4] 29)) (.cells #[.int .i64 0, .slice none 0 0, .slice none 0 0, .slice none 0 0, .slice none 0 0] 29))
  have HS1 := Aside0.mk (show w.heap.size + 1 < ((w.alloc (.cells #[.int .i64 a0_0, .slice A0_1 l0_1.length c0_1, .slice A0_2 l0_2.length c0_2, .slice A0_3 l0_3.length c0_3, .slice A0_4 l0_4.length c0_4] 29)).alloc (.cells #[.int .i64 0, .slice none 0 0, .slice none 0 0, .slice none 0 0, .slice none 0 0] 29)).heap.size by simp)
  clear hcopy hok hr0_1 hr0_2 hr0_3 hr0_4
  cases m1 with
  | false =>
    rw [if_neg (by decide)] at h
    obtain ⟨rfl, rfl, rfl, rfl, rfl, rfl⟩ : t1 = r1 ∧ t2 = r2 ∧ t3 = r3 ∧ t4 = r4 ∧ t5 = r5 ∧ false = r6 := by simpa using h
    go_enter Try.func34, Try.ntmps34
    go_wp2_with (first
      | (go_at_call 48; refine (impl_copyState.calls a0_0 A0_1 c0_1 l0_1 A0_2 c0_2 l0_2 A0_3 c0_3 l0_3 A0_4 c0_4 l0_4 t1 t2 t3 t4 t5 _ (Kd.C_below HR1.out HB1.out) hc0_1 (Kd.C_below HR2.out HB1.out) hc0_2 (Kd.C_below HR3.out HB1.out) hc0_3 (Kd.C_below HR4.out HB1.out) hc0_4 HC.out).mono ?_
         rintro e W ⟨v1, v2, v3, v4, rfl, ho1, ho2, ho3, ho4, hb⟩
         obtain ⟨B1, e1, rfl⟩ := Kd.R_slice ho1
         obtain ⟨B2, e2, rfl⟩ := Kd.R_slice ho2
         obtain ⟨B3, e3, rfl⟩ := Kd.R_slice ho3
         obtain ⟨B4, e4, rfl⟩ := Kd.R_slice ho4
         have HP := Aside0.mk (blk_alloc (blk_below HP1.out hb) (.cells #[.int .i64 t1, .slice B1 t2.length e1, .slice B2 t3.length e2, .slice B3 t4.length e3, .slice B4 t5.length e4] 29))
         have HZ := Aside0.mk (blk_alloc (blk_below HZ1.out hb) (.cells #[.int .i64 t1, .slice B1 t2.length e1, .slice B2 t3.length e2, .slice B3 t4.length e3, .slice B4 t5.length e4] 29))
         have HB := Aside0.mk (below_alloc (below_step HB1.out hb) (.cells #[.int .i64 t1, .slice B1 t2.length e1, .slice B2 t3.length e2, .slice B3 t4.length e3, .slice B4 t5.length e4] 29))
         have HS := Aside0.mk (Nat.lt_of_lt_of_le HS1.out hb.size)
         have HO1 := Aside0.mk (Kd.R_alloc (Kd.R_lower ho1 (base' := w.heap.size) (by have := HS1.out; omega)) (.cells #[.int .i64 t1, .slice B1 t2.length e1, .slice B2 t3.length e2, .slice B3 t4.length e3, .slice B4 t5.length e4] 29))
         have HO2 := Aside0.mk (Kd.R_alloc (Kd.R_lower ho2 (base' := w.heap.size) (by have := HS1.out; omega)) (.cells #[.int .i64 t1, .slice B1 t2.length e1, .slice B2 t3.length e2, .slice B3 t4.length e3, .slice B4 t5.length e4] 29))
         have HO3 := Aside0.mk (Kd.R_alloc (Kd.R_lower ho3 (base' := w.heap.size) (by have := HS1.out; omega)) (.cells #[.int .i64 t1, .slice B1 t2.length e1, .slice B2 t3.length e2, .slice B3 t4.length e3, .slice B4 t5.length e4] 29))
         have HO4 := Aside0.mk (Kd.R_alloc (Kd.R_lower ho4 (base' := w.heap.size) (by have := HS1.out; omega)) (.cells #[.int .i64 t1, .slice B1 t2.length e1, .slice B2 t3.length e2, .slice B3 t4.length e3, .slice B4 t5.length e4] 29))
         have BM := Aside0.mk (blk_new W (.cells #[.int .i64 t1, .slice B1 t2.length e1, .slice B2 t3.length e2, .slice B3 t4.length e3, .slice B4 t5.length e4] 29))
         have hp0 : (W.alloc (.cells #[.int .i64 t1, .slice B1 t2.length e1, .slice B2 t3.length e2, .slice B3 t4.length e3, .slice B4 t5.length e4] 29)).cell? ⟨w.heap.size, 0, none⟩ = some (.int .i64 a0_0) := (blk_cell HP.out 0).trans rfl
         have hp1 : (W.alloc (.cells #[.int .i64 t1, .slice B1 t2.length e1, .slice B2 t3.length e2, .slice B3 t4.length e3, .slice B4 t5.length e4] 29)).cell? ⟨w.heap.size, 1, none⟩ = some (.slice A0_1 l0_1.length c0_1) := (blk_cell HP.out 1).trans rfl
         have hp2 : (W.alloc (.cells #[.int .i64 t1, .slice B1 t2.length e1, .slice B2 t3.length e2, .slice B3 t4.length e3, .slice B4 t5.length e4] 29)).cell? ⟨w.heap.size, 2, none⟩ = some (.slice A0_2 l0_2.length c0_2) := (blk_cell HP.out 2).trans rfl
         have hp3 : (W.alloc (.cells #[.int .i64 t1, .slice B1 t2.length e1, .slice B2 t3.length e2, .slice B3 t4.length e3, .slice B4 t5.length e4] 29)).cell? ⟨w.heap.size, 3, none⟩ = some (.slice A0_3 l0_3.length c0_3) := (blk_cell HP.out 3).trans rfl
         have hp4 : (W.alloc (.cells #[.int .i64 t1, .slice B1 t2.length e1, .slice B2 t3.length e2, .slice B3 t4.length e3, .slice B4 t5.length e4] 29)).cell? ⟨w.heap.size, 4, none⟩ = some (.slice A0_4 l0_4.length c0_4) := (blk_cell HP.out 4).trans rfl
         clear ho1 ho2 ho3 ho4 hb)
      | (go_at_call 32; refine (impl_StateOk.calls k a0_0 A0_1 c0_1 l0_1 A0_2 c0_2 l0_2 A0_3 c0_3 l0_3 A0_4 c0_4 l0_4 false _ (Kd.C_below HR1.out HB.out) hc0_1 (Kd.C_below HR2.out HB.out) hc0_2 (Kd.C_below HR3.out HB.out) hc0_3 (Kd.C_below HR4.out HB.out) hc0_4 HK.out).mono ?_
         rintro e W2 ⟨rfl, hb⟩
         replace HP := Aside0.mk (blk_below HP.out hb)
         replace HZ := Aside0.mk (blk_below HZ.out hb)
         replace HB := Aside0.mk (below_step HB.out hb)
         replace HO1 := Aside0.mk (Kd.R_below HO1.out hb)
         replace HO2 := Aside0.mk (Kd.R_below HO2.out hb)
         replace HO3 := Aside0.mk (Kd.R_below HO3.out hb)
         replace HO4 := Aside0.mk (Kd.R_below HO4.out hb)
         replace BM := Aside0.mk (blk_below BM.out hb)
         have hm0 : W2.cell? ⟨W.heap.size, 0, none⟩ = some (.int .i64 t1) := (blk_cell BM.out 0).trans rfl
         have hm1 : W2.cell? ⟨W.heap.size, 1, none⟩ = some (.slice B1 t2.length e1) := (blk_cell BM.out 1).trans rfl
         have hm2 : W2.cell? ⟨W.heap.size, 2, none⟩ = some (.slice B2 t3.length e2) := (blk_cell BM.out 2).trans rfl
         have hm3 : W2.cell? ⟨W.heap.size, 3, none⟩ = some (.slice B3 t4.length e3) := (blk_cell BM.out 3).trans rfl
         have hm4 : W2.cell? ⟨W.heap.size, 4, none⟩ = some (.slice B4 t5.length e4) := (blk_cell BM.out 4).trans rfl
         have hz0 : W2.cell? ⟨w.heap.size + 1, 0, none⟩ = some (.int .i64 0) := (blk_cell HZ.out 0).trans rfl
         have hz1 : W2.cell? ⟨w.heap.size + 1, 1, none⟩ = some (.slice none 0 0) := (blk_cell HZ.out 1).trans rfl
         have hz2 : W2.cell? ⟨w.heap.size + 1, 2, none⟩ = some (.slice none 0 0) := (blk_cell HZ.out 2).trans rfl
         have hz3 : W2.cell? ⟨w.heap.size + 1, 3, none⟩ = some (.slice none 0 0) := (blk_cell HZ.out 3).trans rfl
         have hz4 : W2.cell? ⟨w.heap.size + 1, 4, none⟩ = some (.slice none 0 0) := (blk_cell HZ.out 4).trans rfl
         have hf0 := blk_frozen HZ.out 0
         have hf1 := blk_frozen HZ.out 1
         have hf2 := blk_frozen HZ.out 2
         have hf3 := blk_frozen HZ.out 3
         have hf4 := blk_frozen HZ.out 4
         clear hb hp0 hp1 hp2 hp3 hp4))
    refine bodyPost_ret (results_ct rfl _ _ (w.heap.size + 1) 29 #[.int .i64 t1, .slice B1 t2.length e1, .slice B2 t3.length e2, .slice B3 t4.length e3, .slice B4 t5.length e4] (0, 0) _ rfl (by refine blk_put (cs := #[.int .i64 t1, .slice B1 t2.length e1, .slice B2 t3.length e2, .slice B3 t4.length e3, .slice none 0 0]) ?_ 4 _ rfl; refine blk_put (cs := #[.int .i64 t1, .slice B1 t2.length e1, .slice B2 t3.length e2, .slice none 0 0, .slice none 0 0]) ?_ 3 _ rfl; refine blk_put (cs := #[.int .i64 t1, .slice B1 t2.length e1, .slice none 0 0, .slice none 0 0, .slice none 0 0]) ?_ 2 _ rfl; refine blk_put (cs := #[.int .i64 t1, .slice none 0 0, .slice none 0 0, .slice none 0 0, .slice none 0 0]) ?_ 1 _ rfl; refine blk_put (cs := #[.int .i64 0, .slice none 0 0, .slice none 0 0, .slice none 0 0, .slice none 0 0]) ?_ 0 _ rfl; exact HZ.out) Try.underlying29 rfl (by kernel_rfl)) rfl ?_
    exact ⟨_, _, _, _, rfl, Kd.R_mono (Kd.R_far (p := ⟨w.heap.size + 1, 4, none⟩) (Kd.R_far (p := ⟨w.heap.size + 1, 3, none⟩) (Kd.R_far (p := ⟨w.heap.size + 1, 2, none⟩) (Kd.R_far (p := ⟨w.heap.size + 1, 1, none⟩) (Kd.R_far (p := ⟨w.heap.size + 1, 0, none⟩) (Kd.R_types HO1.out HZ.out (by decide)) (fun _ hk => hk.2) _) (fun _ hk => hk.2) _) (fun _ hk => hk.2) _) (fun _ hk => hk.2) _) (fun _ hk => hk.2) _) (fun _ hk => trivial), Kd.R_mono (Kd.R_far (p := ⟨w.heap.size + 1, 4, none⟩) (Kd.R_far (p := ⟨w.heap.size + 1, 3, none⟩) (Kd.R_far (p := ⟨w.heap.size + 1, 2, none⟩) (Kd.R_far (p := ⟨w.heap.size + 1, 1, none⟩) (Kd.R_far (p := ⟨w.heap.size + 1, 0, none⟩) (Kd.R_types HO2.out HZ.out (by decide)) (fun _ hk => hk.2) _) (fun _ hk => hk.2) _) (fun _ hk => hk.2) _) (fun _ hk => hk.2) _) (fun _ hk => hk.2) _) (fun _ hk => hk.1), Kd.R_mono (Kd.R_far (p := ⟨w.heap.size + 1, 4, none⟩) (Kd.R_far (p := ⟨w.heap.size + 1, 3, none⟩) (Kd.R_far (p := ⟨w.heap.size + 1, 2, none⟩) (Kd.R_far (p := ⟨w.heap.size + 1, 1, none⟩) (Kd.R_far (p := ⟨w.heap.size + 1, 0, none⟩) (Kd.R_types HO3.out HZ.out (by decide)) (fun _ hk => hk.2) _) (fun _ hk => hk.2) _) (fun _ hk => hk.2) _) (fun _ hk => hk.2) _) (fun _ hk => hk.2) _) (fun _ hk => hk.1), Kd.R_mono (Kd.R_far (p := ⟨w.heap.size + 1, 4, none⟩) (Kd.R_far (p := ⟨w.heap.size + 1, 3, none⟩) (Kd.R_far (p := ⟨w.heap.size + 1, 2, none⟩) (Kd.R_far (p := ⟨w.heap.size + 1, 1, none⟩) (Kd.R_far (p := ⟨w.heap.size + 1, 0, none⟩) (Kd.R_types HO4.out HZ.out (by decide)) (fun _ hk => hk.2) _) (fun _ hk => hk.2) _) (fun _ hk => hk.2) _) (fun _ hk => hk.2) _) (fun _ hk => hk.2) _) (fun _ hk => hk.1), ((((HB.out.setCell (by show w.heap.size ≤ w.heap.size + 1; omega) _).setCell (by show w.heap.size ≤ w.heap.size + 1; omega) _).setCell (by show w.heap.size ≤ w.heap.size + 1; omega) _).setCell (by show w.heap.size ≤ w.heap.size + 1; omega) _).setCell (by show w.heap.size ≤ w.heap.size + 1; omega) _⟩
  | true =>
    rw [if_pos rfl] at h
    obtain ⟨m2, hhas, h⟩ := Option.bind_eq_some_iff.1 h
    have HH := Aside0.mk hhas
    clear hhas
    cases m2 with
    | false =>
      rw [if_neg (by decide)] at h
      obtain ⟨rfl, rfl, rfl, rfl, rfl, rfl⟩ : t1 = r1 ∧ t2 = r2 ∧ t3 = r3 ∧ t4 = r4 ∧ t5 = r5 ∧ false = r6 := by simpa using h
      go_enter Try.func34, Try.ntmps34
      go_wp2_with (first
      | (go_at_call 48; refine (impl_copyState.calls a0_0 A0_1 c0_1 l0_1 A0_2 c0_2 l0_2 A0_3 c0_3 l0_3 A0_4 c0_4 l0_4 t1 t2 t3 t4 t5 _ (Kd.C_below HR1.out HB1.out) hc0_1 (Kd.C_below HR2.out HB1.out) hc0_2 (Kd.C_below HR3.out HB1.out) hc0_3 (Kd.C_below HR4.out HB1.out) hc0_4 HC.out).mono ?_
         rintro e W ⟨v1, v2, v3, v4, rfl, ho1, ho2, ho3, ho4, hb⟩
         obtain ⟨B1, e1, rfl⟩ := Kd.R_slice ho1
         obtain ⟨B2, e2, rfl⟩ := Kd.R_slice ho2
         obtain ⟨B3, e3, rfl⟩ := Kd.R_slice ho3
         obtain ⟨B4, e4, rfl⟩ := Kd.R_slice ho4
         have HP := Aside0.mk (blk_alloc (blk_below HP1.out hb) (.cells #[.int .i64 t1, .slice B1 t2.length e1, .slice B2 t3.length e2, .slice B3 t4.length e3, .slice B4 t5.length e4] 29))
         have HZ := Aside0.mk (blk_alloc (blk_below HZ1.out hb) (.cells #[.int .i64 t1, .slice B1 t2.length e1, .slice B2 t3.length e2, .slice B3 t4.length e3, .slice B4 t5.length e4] 29))
         have HB := Aside0.mk (below_alloc (below_step HB1.out hb) (.cells #[.int .i64 t1, .slice B1 t2.length e1, .slice B2 t3.length e2, .slice B3 t4.length e3, .slice B4 t5.length e4] 29))
         have HS := Aside0.mk (Nat.lt_of_lt_of_le HS1.out hb.size)
         have HO1 := Aside0.mk (Kd.R_alloc (Kd.R_lower ho1 (base' := w.heap.size) (by have := HS1.out; omega)) (.cells #[.int .i64 t1, .slice B1 t2.length e1, .slice B2 t3.length e2, .slice B3 t4.length e3, .slice B4 t5.length e4] 29))
         have HO2 := Aside0.mk (Kd.R_alloc (Kd.R_lower ho2 (base' := w.heap.size) (by have := HS1.out; omega)) (.cells #[.int .i64 t1, .slice B1 t2.length e1, .slice B2 t3.length e2, .slice B3 t4.length e3, .slice B4 t5.length e4] 29))
         have HO3 := Aside0.mk (Kd.R_alloc (Kd.R_lower ho3 (base' := w.heap.size) (by have := HS1.out; omega)) (.cells #[.int .i64 t1, .slice B1 t2.length e1, .slice B2 t3.length e2, .slice B3 t4.length e3, .slice B4 t5.length e4] 29))
         have HO4 := Aside0.mk (Kd.R_alloc (Kd.R_lower ho4 (base' := w.heap.size) (by have := HS1.out; omega)) (.cells #[.int .i64 t1, .slice B1 t2.length e1, .slice B2 t3.length e2, .slice B3 t4.length e3, .slice B4 t5.length e4] 29))
         have BM := Aside0.mk (blk_new W (.cells #[.int .i64 t1, .slice B1 t2.length e1, .slice B2 t3.length e2, .slice B3 t4.length e3, .slice B4 t5.length e4] 29))
         have hp0 : (W.alloc (.cells #[.int .i64 t1, .slice B1 t2.length e1, .slice B2 t3.length e2, .slice B3 t4.length e3, .slice B4 t5.length e4] 29)).cell? ⟨w.heap.size, 0, none⟩ = some (.int .i64 a0_0) := (blk_cell HP.out 0).trans rfl
         have hp1 : (W.alloc (.cells #[.int .i64 t1, .slice B1 t2.length e1, .slice B2 t3.length e2, .slice B3 t4.length e3, .slice B4 t5.length e4] 29)).cell? ⟨w.heap.size, 1, none⟩ = some (.slice A0_1 l0_1.length c0_1) := (blk_cell HP.out 1).trans rfl
         have hp2 : (W.alloc (.cells #[.int .i64 t1, .slice B1 t2.length e1, .slice B2 t3.length e2, .slice B3 t4.length e3, .slice B4 t5.length e4] 29)).cell? ⟨w.heap.size, 2, none⟩ = some (.slice A0_2 l0_2.length c0_2) := (blk_cell HP.out 2).trans rfl
         have hp3 : (W.alloc (.cells #[.int .i64 t1, .slice B1 t2.length e1, .slice B2 t3.length e2, .slice B3 t4.length e3, .slice B4 t5.length e4] 29)).cell? ⟨w.heap.size, 3, none⟩ = some (.slice A0_3 l0_3.length c0_3) := (blk_cell HP.out 3).trans rfl
         have hp4 : (W.alloc (.cells #[.int .i64 t1, .slice B1 t2.length e1, .slice B2 t3.length e2, .slice B3 t4.length e3, .slice B4 t5.length e4] 29)).cell? ⟨w.heap.size, 4, none⟩ = some (.slice A0_4 l0_4.length c0_4) := (blk_cell HP.out 4).trans rfl
         clear ho1 ho2 ho3 ho4 hb)
      | (go_at_call 32; refine (impl_StateOk.calls k a0_0 A0_1 c0_1 l0_1 A0_2 c0_2 l0_2 A0_3 c0_3 l0_3 A0_4 c0_4 l0_4 true _ (Kd.C_below HR1.out HB.out) hc0_1 (Kd.C_below HR2.out HB.out) hc0_2 (Kd.C_below HR3.out HB.out) hc0_3 (Kd.C_below HR4.out HB.out) hc0_4 HK.out).mono ?_
         rintro e W2 ⟨rfl, hb⟩
         replace HP := Aside0.mk (blk_below HP.out hb)
         replace HZ := Aside0.mk (blk_below HZ.out hb)
         replace HB := Aside0.mk (below_step HB.out hb)
         replace HO1 := Aside0.mk (Kd.R_below HO1.out hb)
         replace HO2 := Aside0.mk (Kd.R_below HO2.out hb)
         replace HO3 := Aside0.mk (Kd.R_below HO3.out hb)
         replace HO4 := Aside0.mk (Kd.R_below HO4.out hb)
         replace BM := Aside0.mk (blk_below BM.out hb)
         have hp0 : W2.cell? ⟨w.heap.size, 0, none⟩ = some (.int .i64 a0_0) := (blk_cell HP.out 0).trans rfl
         have hp1 : W2.cell? ⟨w.heap.size, 1, none⟩ = some (.slice A0_1 l0_1.length c0_1) := (blk_cell HP.out 1).trans rfl
         clear hb hp2 hp3 hp4)
      | (go_at_call 78; refine (impl_Mesh_has.calls a0_0 A0_1 c0_1 l0_1 a1 false _ (Kd.C_below HR1.out HB.out) hc0_1 HH.out).mono ?_
         rintro e W3 ⟨rfl, hb⟩
         replace HP := Aside0.mk (blk_below HP.out hb)
         replace HZ := Aside0.mk (blk_below HZ.out hb)
         replace HB := Aside0.mk (below_step HB.out hb)
         replace HO1 := Aside0.mk (Kd.R_below HO1.out hb)
         replace HO2 := Aside0.mk (Kd.R_below HO2.out hb)
         replace HO3 := Aside0.mk (Kd.R_below HO3.out hb)
         replace HO4 := Aside0.mk (Kd.R_below HO4.out hb)
         replace BM := Aside0.mk (blk_below BM.out hb)
         have hm0 : W3.cell? ⟨W.heap.size, 0, none⟩ = some (.int .i64 t1) := (blk_cell BM.out 0).trans rfl
         have hm1 : W3.cell? ⟨W.heap.size, 1, none⟩ = some (.slice B1 t2.length e1) := (blk_cell BM.out 1).trans rfl
         have hm2 : W3.cell? ⟨W.heap.size, 2, none⟩ = some (.slice B2 t3.length e2) := (blk_cell BM.out 2).trans rfl
         have hm3 : W3.cell? ⟨W.heap.size, 3, none⟩ = some (.slice B3 t4.length e3) := (blk_cell BM.out 3).trans rfl
         have hm4 : W3.cell? ⟨W.heap.size, 4, none⟩ = some (.slice B4 t5.length e4) := (blk_cell BM.out 4).trans rfl
         have hz0 : W3.cell? ⟨w.heap.size + 1, 0, none⟩ = some (.int .i64 0) := (blk_cell HZ.out 0).trans rfl
         have hz1 : W3.cell? ⟨w.heap.size + 1, 1, none⟩ = some (.slice none 0 0) := (blk_cell HZ.out 1).trans rfl
         have hz2 : W3.cell? ⟨w.heap.size + 1, 2, none⟩ = some (.slice none 0 0) := (blk_cell HZ.out 2).trans rfl
         have hz3 : W3.cell? ⟨w.heap.size + 1, 3, none⟩ = some (.slice none 0 0) := (blk_cell HZ.out 3).trans rfl
         have hz4 : W3.cell? ⟨w.heap.size + 1, 4, none⟩ = some (.slice none 0 0) := (blk_cell HZ.out 4).trans rfl
         have hf0 := blk_frozen HZ.out 0
         have hf1 := blk_frozen HZ.out 1
         have hf2 := blk_frozen HZ.out 2
         have hf3 := blk_frozen HZ.out 3
         have hf4 := blk_frozen HZ.out 4
         clear hb hp0 hp1))
      refine bodyPost_ret (results_ct rfl _ _ (w.heap.size + 1) 29 #[.int .i64 t1, .slice B1 t2.length e1, .slice B2 t3.length e2, .slice B3 t4.length e3, .slice B4 t5.length e4] (0, 0) _ rfl (by refine blk_put (cs := #[.int .i64 t1, .slice B1 t2.length e1, .slice B2 t3.length e2, .slice B3 t4.length e3, .slice none 0 0]) ?_ 4 _ rfl; refine blk_put (cs := #[.int .i64 t1, .slice B1 t2.length e1, .slice B2 t3.length e2, .slice none 0 0, .slice none 0 0]) ?_ 3 _ rfl; refine blk_put (cs := #[.int .i64 t1, .slice B1 t2.length e1, .slice none 0 0, .slice none 0 0, .slice none 0 0]) ?_ 2 _ rfl; refine blk_put (cs := #[.int .i64 t1, .slice none 0 0, .slice none 0 0, .slice none 0 0, .slice none 0 0]) ?_ 1 _ rfl; refine blk_put (cs := #[.int .i64 0, .slice none 0 0, .slice none 0 0, .slice none 0 0, .slice none 0 0]) ?_ 0 _ rfl; exact HZ.out) Try.underlying29 rfl (by kernel_rfl)) rfl ?_
      exact ⟨_, _, _, _, rfl, Kd.R_mono (Kd.R_far (p := ⟨w.heap.size + 1, 4, none⟩) (Kd.R_far (p := ⟨w.heap.size + 1, 3, none⟩) (Kd.R_far (p := ⟨w.heap.size + 1, 2, none⟩) (Kd.R_far (p := ⟨w.heap.size + 1, 1, none⟩) (Kd.R_far (p := ⟨w.heap.size + 1, 0, none⟩) (Kd.R_types HO1.out HZ.out (by decide)) (fun _ hk => hk.2) _) (fun _ hk => hk.2) _) (fun _ hk => hk.2) _) (fun _ hk => hk.2) _) (fun _ hk => hk.2) _) (fun _ hk => trivial), Kd.R_mono (Kd.R_far (p := ⟨w.heap.size + 1, 4, none⟩) (Kd.R_far (p := ⟨w.heap.size + 1, 3, none⟩) (Kd.R_far (p := ⟨w.heap.size + 1, 2, none⟩) (Kd.R_far (p := ⟨w.heap.size + 1, 1, none⟩) (Kd.R_far (p := ⟨w.heap.size + 1, 0, none⟩) (Kd.R_types HO2.out HZ.out (by decide)) (fun _ hk => hk.2) _) (fun _ hk => hk.2) _) (fun _ hk => hk.2) _) (fun _ hk => hk.2) _) (fun _ hk => hk.2) _) (fun _ hk => hk.1), Kd.R_mono (Kd.R_far (p := ⟨w.heap.size + 1, 4, none⟩) (Kd.R_far (p := ⟨w.heap.size + 1, 3, none⟩) (Kd.R_far (p := ⟨w.heap.size + 1, 2, none⟩) (Kd.R_far (p := ⟨w.heap.size + 1, 1, none⟩) (Kd.R_far (p := ⟨w.heap.size + 1, 0, none⟩) (Kd.R_types HO3.out HZ.out (by decide)) (fun _ hk => hk.2) _) (fun _ hk => hk.2) _) (fun _ hk => hk.2) _) (fun _ hk => hk.2) _) (fun _ hk => hk.2) _) (fun _ hk => hk.1), Kd.R_mono (Kd.R_far (p := ⟨w.heap.size + 1, 4, none⟩) (Kd.R_far (p := ⟨w.heap.size + 1, 3, none⟩) (Kd.R_far (p := ⟨w.heap.size + 1, 2, none⟩) (Kd.R_far (p := ⟨w.heap.size + 1, 1, none⟩) (Kd.R_far (p := ⟨w.heap.size + 1, 0, none⟩) (Kd.R_types HO4.out HZ.out (by decide)) (fun _ hk => hk.2) _) (fun _ hk => hk.2) _) (fun _ hk => hk.2) _) (fun _ hk => hk.2) _) (fun _ hk => hk.2) _) (fun _ hk => hk.1), ((((HB.out.setCell (by show w.heap.size ≤ w.heap.size + 1; omega) _).setCell (by show w.heap.size ≤ w.heap.size + 1; omega) _).setCell (by show w.heap.size ≤ w.heap.size + 1; omega) _).setCell (by show w.heap.size ≤ w.heap.size + 1; omega) _).setCell (by show w.heap.size ≤ w.heap.size + 1; omega) _⟩
    | true =>
      rw [if_pos rfl] at h
      by_cases h0 : 0 ≤ a1
      · rw [if_pos h0] at h
        obtain ⟨n, rfl⟩ := Int.eq_ofNat_of_zero_le h0
        by_cases hl2 : (n : Int) < (t3.length : Int)
        · rw [if_pos hl2] at h
          by_cases hl3 : (n : Int) < (t4.length : Int)
          · rw [if_pos hl3] at h
            obtain ⟨m3, hok2, h⟩ := Option.bind_eq_some_iff.1 h
            rw [Int.toNat_natCast] at hok2 h
            have HK2 := Aside0.mk hok2
            have H := Aside0.mk h
            clear hok2 h
            go_enter Try.func34, Try.ntmps34
            go_wp2_with (first
              | (go_at_call 48; refine (impl_copyState.calls a0_0 A0_1 c0_1 l0_1 A0_2 c0_2 l0_2 A0_3 c0_3 l0_3 A0_4 c0_4 l0_4 t1 t2 t3 t4 t5 _ (Kd.C_below HR1.out HB1.out) hc0_1 (Kd.C_below HR2.out HB1.out) hc0_2 (Kd.C_below HR3.out HB1.out) hc0_3 (Kd.C_below HR4.out HB1.out) hc0_4 HC.out).mono ?_
                 rintro e W ⟨v1, v2, v3, v4, rfl, ho1, ho2, ho3, ho4, hb⟩
                 obtain ⟨B1, e1, rfl⟩ := Kd.R_slice ho1
                 obtain ⟨B2, e2, rfl⟩ := Kd.R_slice ho2
                 obtain ⟨B3, e3, rfl⟩ := Kd.R_slice ho3
                 obtain ⟨B4, e4, rfl⟩ := Kd.R_slice ho4
                 have HP := Aside0.mk (blk_alloc (blk_below HP1.out hb) (.cells #[.int .i64 t1, .slice B1 t2.length e1, .slice B2 t3.length e2, .slice B3 t4.length e3, .slice B4 t5.length e4] 29))
                 have HZ := Aside0.mk (blk_alloc (blk_below HZ1.out hb) (.cells #[.int .i64 t1, .slice B1 t2.length e1, .slice B2 t3.length e2, .slice B3 t4.length e3, .slice B4 t5.length e4] 29))
                 have HB := Aside0.mk (below_alloc (below_step HB1.out hb) (.cells #[.int .i64 t1, .slice B1 t2.length e1, .slice B2 t3.length e2, .slice B3 t4.length e3, .slice B4 t5.length e4] 29))
                 have HS := Aside0.mk (Nat.lt_of_lt_of_le HS1.out hb.size)
                 have HO1 := Aside0.mk (Kd.R_alloc (Kd.R_lower ho1 (base' := w.heap.size) (by have := HS1.out; omega)) (.cells #[.int .i64 t1, .slice B1 t2.length e1, .slice B2 t3.length e2, .slice B3 t4.length e3, .slice B4 t5.length e4] 29))
                 have HO2 := Aside0.mk (Kd.R_alloc (Kd.R_lower ho2 (base' := w.heap.size) (by have := HS1.out; omega)) (.cells #[.int .i64 t1, .slice B1 t2.length e1, .slice B2 t3.length e2, .slice B3 t4.length e3, .slice B4 t5.length e4] 29))
                 have HO3 := Aside0.mk (Kd.R_alloc (Kd.R_lower ho3 (base' := w.heap.size) (by have := HS1.out; omega)) (.cells #[.int .i64 t1, .slice B1 t2.length e1, .slice B2 t3.length e2, .slice B3 t4.length e3, .slice B4 t5.length e4] 29))
                 have HO4 := Aside0.mk (Kd.R_alloc (Kd.R_lower ho4 (base' := w.heap.size) (by have := HS1.out; omega)) (.cells #[.int .i64 t1, .slice B1 t2.length e1, .slice B2 t3.length e2, .slice B3 t4.length e3, .slice B4 t5.length e4] 29))
                 have BM := Aside0.mk (blk_new W (.cells #[.int .i64 t1, .slice B1 t2.length e1, .slice B2 t3.length e2, .slice B3 t4.length e3, .slice B4 t5.length e4] 29))
                 have hp0 : (W.alloc (.cells #[.int .i64 t1, .slice B1 t2.length e1, .slice B2 t3.length e2, .slice B3 t4.length e3, .slice B4 t5.length e4] 29)).cell? ⟨w.heap.size, 0, none⟩ = some (.int .i64 a0_0) := (blk_cell HP.out 0).trans rfl
                 have hp1 : (W.alloc (.cells #[.int .i64 t1, .slice B1 t2.length e1, .slice B2 t3.length e2, .slice B3 t4.length e3, .slice B4 t5.length e4] 29)).cell? ⟨w.heap.size, 1, none⟩ = some (.slice A0_1 l0_1.length c0_1) := (blk_cell HP.out 1).trans rfl
                 have hp2 : (W.alloc (.cells #[.int .i64 t1, .slice B1 t2.length e1, .slice B2 t3.length e2, .slice B3 t4.length e3, .slice B4 t5.length e4] 29)).cell? ⟨w.heap.size, 2, none⟩ = some (.slice A0_2 l0_2.length c0_2) := (blk_cell HP.out 2).trans rfl
                 have hp3 : (W.alloc (.cells #[.int .i64 t1, .slice B1 t2.length e1, .slice B2 t3.length e2, .slice B3 t4.length e3, .slice B4 t5.length e4] 29)).cell? ⟨w.heap.size, 3, none⟩ = some (.slice A0_3 l0_3.length c0_3) := (blk_cell HP.out 3).trans rfl
                 have hp4 : (W.alloc (.cells #[.int .i64 t1, .slice B1 t2.length e1, .slice B2 t3.length e2, .slice B3 t4.length e3, .slice B4 t5.length e4] 29)).cell? ⟨w.heap.size, 4, none⟩ = some (.slice A0_4 l0_4.length c0_4) := (blk_cell HP.out 4).trans rfl
                 clear ho1 ho2 ho3 ho4 hb)
              | (go_at_call 32; refine (impl_StateOk.calls k a0_0 A0_1 c0_1 l0_1 A0_2 c0_2 l0_2 A0_3 c0_3 l0_3 A0_4 c0_4 l0_4 true _ (Kd.C_below HR1.out HB.out) hc0_1 (Kd.C_below HR2.out HB.out) hc0_2 (Kd.C_below HR3.out HB.out) hc0_3 (Kd.C_below HR4.out HB.out) hc0_4 HK.out).mono ?_
                 rintro e W2 ⟨rfl, hb⟩
                 replace HP := Aside0.mk (blk_below HP.out hb)
                 replace HZ := Aside0.mk (blk_below HZ.out hb)
                 replace HB := Aside0.mk (below_step HB.out hb)
                 replace HO1 := Aside0.mk (Kd.R_below HO1.out hb)
                 replace HO2 := Aside0.mk (Kd.R_below HO2.out hb)
                 replace HO3 := Aside0.mk (Kd.R_below HO3.out hb)
                 replace HO4 := Aside0.mk (Kd.R_below HO4.out hb)
                 replace BM := Aside0.mk (blk_below BM.out hb)
                 have hp0 : W2.cell? ⟨w.heap.size, 0, none⟩ = some (.int .i64 a0_0) := (blk_cell HP.out 0).trans rfl
                 have hp1 : W2.cell? ⟨w.heap.size, 1, none⟩ = some (.slice A0_1 l0_1.length c0_1) := (blk_cell HP.out 1).trans rfl
                 clear hb hp2 hp3 hp4)
              | (go_at_call 78; refine (impl_Mesh_has.calls a0_0 A0_1 c0_1 l0_1 (n : Int) true _ (Kd.C_below HR1.out HB.out) hc0_1 HH.out).mono ?_
                 rintro e W3 ⟨rfl, hb⟩
                 replace HP := Aside0.mk (blk_below HP.out hb)
                 replace HZ := Aside0.mk (blk_below HZ.out hb)
                 replace HB := Aside0.mk (below_step HB.out hb)
                 replace HO1 := Aside0.mk (Kd.R_below HO1.out hb)
                 replace HO2 := Aside0.mk (Kd.R_below HO2.out hb)
                 replace HO3 := Aside0.mk (Kd.R_below HO3.out hb)
                 replace HO4 := Aside0.mk (Kd.R_below HO4.out hb)
                 replace BM := Aside0.mk (blk_below BM.out hb)
                 obtain ⟨gM, curM, rfl, hgM, hlM⟩ := Go.Proofs.Ytbkkehjhfgocfaa.OwnK.R_at HO2.out (by omega)
                 obtain ⟨gT, curT, rfl, hgT, hlT⟩ := Go.Proofs.Ytbkkehjhfgocfaa.OwnK.R_at HO3.out (by omega)
                 have hMT : gM ≠ gT := fun e => (HO2.out.1 gM rfl).1 (by rw [e]; rfl)
                 have hTM : gT ≠ gM := fun e => hMT e.symm
                 have hmM : W.heap.size ≠ gM := fun e => Kd.R_ne HO2.out BM.out (by decide) (by rw [e]; rfl)
                 have hmT : W.heap.size ≠ gT := fun e => Kd.R_ne HO3.out BM.out (by decide) (by rw [e]; rfl)
                 have hm2 : W3.cell? ⟨W.heap.size, 2, none⟩ = some (.slice (some ⟨gM, 0, none⟩) t3.length e2) := (blk_cell BM.out 2).trans rfl
                 have hm3 : W3.cell? ⟨W.heap.size, 3, none⟩ = some (.slice (some ⟨gT, 0, none⟩) t4.length e3) := (blk_cell BM.out 3).trans rfl
                 obtain ⟨yM, hyM⟩ : ∃ y, W3.cell? ⟨gM, n, none⟩ = some y := ⟨_, (blk_cell hgM n).trans (Array.getElem?_eq_getElem (by omega))⟩
                 obtain ⟨yT, hyT⟩ : ∃ y, W3.cell? ⟨gT, n, none⟩ = some y := ⟨_, (blk_cell hgT n).trans (Array.getElem?_eq_getElem (by omega))⟩
                 have hfM := blk_frozen hgM n
                 have hfT := blk_frozen hgT n
                 have GM := Aside0.mk hgM
                 have GT := Aside0.mk hgT
                 clear hgM hgT hlM hlT
                 clear hb hp0 hp1))
            go_region
            have l2 : (t3.set n a2).length = t3.length := List.length_set ..
            have l3 : (t4.set n a3).length = t4.length := List.length_set ..
            have bM := own_base (Kd.own_of_R HO2.out) gM rfl
            have bT := own_base (Kd.own_of_R HO3.out) gT rfl
            have zM : w.heap.size + 1 ≠ gM := fun e => Kd.R_ne HO2.out HZ.out (by decide) (by rw [e]; rfl)
            have zT : w.heap.size + 1 ≠ gT := fun e => Kd.R_ne HO3.out HZ.out (by decide) (by rw [e]; rfl)
            have pM : w.heap.size ≠ gM := fun e => Kd.R_ne HO2.out HP.out (by decide) (by rw [e]; rfl)
            have pT : w.heap.size ≠ gT := fun e => Kd.R_ne HO3.out HP.out (by decide) (by rw [e]; rfl)
            have q1 := Kd.R_drew (Kd.R_set (Kd.R_set HO1.out GM.out (by decide) n (.int .i64 a2)) (blk_far (p := ⟨gM, n, none⟩) GT.out hTM (.int .i64 a2)) (by decide) n (.int .i64 a3))
            have q2 := Kd.R_drew (Kd.R_far (p := ⟨gT, n, none⟩) (Go.Proofs.Ytbkkehjhfgocfaa.OwnK.R_put HO2.out n (by omega) a2) (fun k hk e => hk.1 (by rw [e]; rfl)) (.int .i64 a3))
            have q3 := Kd.R_drew (Go.Proofs.Ytbkkehjhfgocfaa.OwnK.R_put (Kd.R_far (p := ⟨gM, n, none⟩) HO3.out (fun k hk e => hk.1 (by rw [e]; rfl)) (.int .i64 a2)) n (by omega) a3)
            have q4 := Kd.R_drew (Kd.R_far (p := ⟨gT, n, none⟩) (Kd.R_far (p := ⟨gM, n, none⟩) HO4.out (fun k hk e => hk.1 (by rw [e]; rfl)) (.int .i64 a2)) (fun k hk e => hk.2 (by rw [e]; rfl)) (.int .i64 a3))
            have q5 := blk_drew (blk_far (p := ⟨gT, n, none⟩) (blk_far (p := ⟨gM, n, none⟩) BM.out hmM (.int .i64 a2)) hmT (.int .i64 a3))
            have q6 := blk_drew (blk_far (p := ⟨gT, n, none⟩) (blk_far (p := ⟨gM, n, none⟩) HZ.out zM (.int .i64 a2)) zT (.int .i64 a3))
            have q7 := blk_drew (blk_far (p := ⟨gT, n, none⟩) (blk_far (p := ⟨gM, n, none⟩) HP.out pM (.int .i64 a2)) pT (.int .i64 a3))
            have q8 := below_drew1 ((HB.out.setCell (p := ⟨gM, n, none⟩) bM (.int .i64 a2)).setCell (p := ⟨gT, n, none⟩) bT (.int .i64 a3))
            clear HO1 HO2 HO3 HO4 BM HZ HP HB GM GT hm2 hm3 hyM hyT hfM hfT
            generalize (((W3.setCell ⟨gM, n, none⟩ (.int .i64 a2)).setCell ⟨gT, n, none⟩ (.int .i64 a3))).drew = X at q1 q2 q3 q4 q5 q6 q7 q8 ⊢
            rw [← l2] at q2 q5
            rw [← l3] at q3 q5
            clear l2 l3
            generalize t3.set n a2 = u3 at q2 q5 HK2 H
            generalize t4.set n a3 = u4 at q3 q5 HK2 H
            have HO1 := Aside0.mk q1
            have HO2 := Aside0.mk q2
            have HO3 := Aside0.mk q3
            have HO4 := Aside0.mk q4
            have BM := Aside0.mk q5
            have HZ := Aside0.mk q6
            have HP := Aside0.mk q7
            have HB := Aside0.mk q8
            have hm0 : X.cell? ⟨W.heap.size, 0, none⟩ = some (.int .i64 t1) := (blk_cell BM.out 0).trans rfl
            have hm1 : X.cell? ⟨W.heap.size, 1, none⟩ = some (.slice B1 t2.length e1) := (blk_cell BM.out 1).trans rfl
            have hm2 : X.cell? ⟨W.heap.size, 2, none⟩ = some (.slice (some ⟨gM, 0, none⟩) u3.length e2) := (blk_cell BM.out 2).trans rfl
            have hm3 : X.cell? ⟨W.heap.size, 3, none⟩ = some (.slice (some ⟨gT, 0, none⟩) u4.length e3) := (blk_cell BM.out 3).trans rfl
            have hm4 : X.cell? ⟨W.heap.size, 4, none⟩ = some (.slice B4 t5.length e4) := (blk_cell BM.out 4).trans rfl
            clear q1 q2 q3 q4 q5 q6 q7 q8
            cases m3 with
            | true =>
              have h := H.out
              rw [if_pos rfl] at h
              obtain ⟨rfl, rfl, rfl, rfl, rfl, rfl⟩ : t1 = r1 ∧ t2 = r2 ∧ u3 = r3 ∧ u4 = r4 ∧ t5 = r5 ∧ true = r6 := by simpa using h
              clear h H
              go_wp2_with (
                  (go_at_call 32; refine (impl_StateOk.calls k t1 B1 e1 t2 (some ⟨gM, 0, none⟩) e2 u3 (some ⟨gT, 0, none⟩) e3 u4 B4 e4 t5 true _ (Go.Proofs.Ytbkkehjhfgocfaa.OwnK.R_C HO1.out) (Go.Proofs.Ytbkkehjhfgocfaa.OwnK.R_cap HO1.out) (Go.Proofs.Ytbkkehjhfgocfaa.OwnK.R_C HO2.out) (Go.Proofs.Ytbkkehjhfgocfaa.OwnK.R_cap HO2.out) (Go.Proofs.Ytbkkehjhfgocfaa.OwnK.R_C HO3.out) (Go.Proofs.Ytbkkehjhfgocfaa.OwnK.R_cap HO3.out) (Go.Proofs.Ytbkkehjhfgocfaa.OwnK.R_C HO4.out) (Go.Proofs.Ytbkkehjhfgocfaa.OwnK.R_cap HO4.out) HK2.out).mono ?_
                   rintro e W5 ⟨rfl, hb⟩
                   replace HP := Aside0.mk (blk_below HP.out hb)
                   replace HZ := Aside0.mk (blk_below HZ.out hb)
                   replace HB := Aside0.mk (below_step HB.out hb)
                   replace HO1 := Aside0.mk (Kd.R_below HO1.out hb)
                   replace HO2 := Aside0.mk (Kd.R_below HO2.out hb)
                   replace HO3 := Aside0.mk (Kd.R_below HO3.out hb)
                   replace HO4 := Aside0.mk (Kd.R_below HO4.out hb)
                   replace BM := Aside0.mk (blk_below BM.out hb)
                   clear hm0 hm1 hm2 hm3 hm4
                   have hm0 : W5.cell? ⟨W.heap.size, 0, none⟩ = some (.int .i64 t1) := (blk_cell BM.out 0).trans rfl
                   have hm1 : W5.cell? ⟨W.heap.size, 1, none⟩ = some (.slice B1 t2.length e1) := (blk_cell BM.out 1).trans rfl
                   have hm2 : W5.cell? ⟨W.heap.size, 2, none⟩ = some (.slice (some ⟨gM, 0, none⟩) u3.length e2) := (blk_cell BM.out 2).trans rfl
                   have hm3 : W5.cell? ⟨W.heap.size, 3, none⟩ = some (.slice (some ⟨gT, 0, none⟩) u4.length e3) := (blk_cell BM.out 3).trans rfl
                   have hm4 : W5.cell? ⟨W.heap.size, 4, none⟩ = some (.slice B4 t5.length e4) := (blk_cell BM.out 4).trans rfl
                   have hz0 : W5.cell? ⟨w.heap.size + 1, 0, none⟩ = some (.int .i64 0) := (blk_cell HZ.out 0).trans rfl
                   have hz1 : W5.cell? ⟨w.heap.size + 1, 1, none⟩ = some (.slice none 0 0) := (blk_cell HZ.out 1).trans rfl
                   have hz2 : W5.cell? ⟨w.heap.size + 1, 2, none⟩ = some (.slice none 0 0) := (blk_cell HZ.out 2).trans rfl
                   have hz3 : W5.cell? ⟨w.heap.size + 1, 3, none⟩ = some (.slice none 0 0) := (blk_cell HZ.out 3).trans rfl
                   have hz4 : W5.cell? ⟨w.heap.size + 1, 4, none⟩ = some (.slice none 0 0) := (blk_cell HZ.out 4).trans rfl
                   have hf0 := blk_frozen HZ.out 0
                   have hf1 := blk_frozen HZ.out 1
                   have hf2 := blk_frozen HZ.out 2
                   have hf3 := blk_frozen HZ.out 3
                   have hf4 := blk_frozen HZ.out 4
                   clear hb ))
              refine bodyPost_ret (results_ct rfl _ _ (w.heap.size + 1) 29 #[.int .i64 t1, .slice B1 t2.length e1, .slice (some ⟨gM, 0, none⟩) u3.length e2, .slice (some ⟨gT, 0, none⟩) u4.length e3, .slice B4 t5.length e4] (0, 0) _ rfl (by refine blk_put (cs := #[.int .i64 t1, .slice B1 t2.length e1, .slice (some ⟨gM, 0, none⟩) u3.length e2, .slice (some ⟨gT, 0, none⟩) u4.length e3, .slice none 0 0]) ?_ 4 _ rfl; refine blk_put (cs := #[.int .i64 t1, .slice B1 t2.length e1, .slice (some ⟨gM, 0, none⟩) u3.length e2, .slice none 0 0, .slice none 0 0]) ?_ 3 _ rfl; refine blk_put (cs := #[.int .i64 t1, .slice B1 t2.length e1, .slice none 0 0, .slice none 0 0, .slice none 0 0]) ?_ 2 _ rfl; refine blk_put (cs := #[.int .i64 t1, .slice none 0 0, .slice none 0 0, .slice none 0 0, .slice none 0 0]) ?_ 1 _ rfl; refine blk_put (cs := #[.int .i64 0, .slice none 0 0, .slice none 0 0, .slice none 0 0, .slice none 0 0]) ?_ 0 _ rfl; exact HZ.out) Try.underlying29 rfl (by kernel_rfl)) rfl ?_
              exact ⟨_, _, _, _, rfl, Kd.R_mono (Kd.R_far (p := ⟨w.heap.size + 1, 4, none⟩) (Kd.R_far (p := ⟨w.heap.size + 1, 3, none⟩) (Kd.R_far (p := ⟨w.heap.size + 1, 2, none⟩) (Kd.R_far (p := ⟨w.heap.size + 1, 1, none⟩) (Kd.R_far (p := ⟨w.heap.size + 1, 0, none⟩) (Kd.R_types HO1.out HZ.out (by decide)) (fun _ hk => hk.2) _) (fun _ hk => hk.2) _) (fun _ hk => hk.2) _) (fun _ hk => hk.2) _) (fun _ hk => hk.2) _) (fun _ hk => trivial), Kd.R_mono (Kd.R_far (p := ⟨w.heap.size + 1, 4, none⟩) (Kd.R_far (p := ⟨w.heap.size + 1, 3, none⟩) (Kd.R_far (p := ⟨w.heap.size + 1, 2, none⟩) (Kd.R_far (p := ⟨w.heap.size + 1, 1, none⟩) (Kd.R_far (p := ⟨w.heap.size + 1, 0, none⟩) (Kd.R_types HO2.out HZ.out (by decide)) (fun _ hk => hk.2) _) (fun _ hk => hk.2) _) (fun _ hk => hk.2) _) (fun _ hk => hk.2) _) (fun _ hk => hk.2) _) (fun _ hk => hk.1), Kd.R_mono (Kd.R_far (p := ⟨w.heap.size + 1, 4, none⟩) (Kd.R_far (p := ⟨w.heap.size + 1, 3, none⟩) (Kd.R_far (p := ⟨w.heap.size + 1, 2, none⟩) (Kd.R_far (p := ⟨w.heap.size + 1, 1, none⟩) (Kd.R_far (p := ⟨w.heap.size + 1, 0, none⟩) (Kd.R_types HO3.out HZ.out (by decide)) (fun _ hk => hk.2) _) (fun _ hk => hk.2) _) (fun _ hk => hk.2) _) (fun _ hk => hk.2) _) (fun _ hk => hk.2) _) (fun _ hk => hk.1), Kd.R_mono (Kd.R_far (p := ⟨w.heap.size + 1, 4, none⟩) (Kd.R_far (p := ⟨w.heap.size + 1, 3, none⟩) (Kd.R_far (p := ⟨w.heap.size + 1, 2, none⟩) (Kd.R_far (p := ⟨w.heap.size + 1, 1, none⟩) (Kd.R_far (p := ⟨w.heap.size + 1, 0, none⟩) (Kd.R_types HO4.out HZ.out (by decide)) (fun _ hk => hk.2) _) (fun _ hk => hk.2) _) (fun _ hk => hk.2) _) (fun _ hk => hk.2) _) (fun _ hk => hk.2) _) (fun _ hk => hk.1), ((((HB.out.setCell (by show w.heap.size ≤ w.heap.size + 1; omega) _).setCell (by show w.heap.size ≤ w.heap.size + 1; omega) _).setCell (by show w.heap.size ≤ w.heap.size + 1; omega) _).setCell (by show w.heap.size ≤ w.heap.size + 1; omega) _).setCell (by show w.heap.size ≤ w.heap.size + 1; omega) _⟩
            | false =>
              have h := H.out
              rw [if_neg (by decide)] at h
              obtain ⟨rfl, rfl, rfl, rfl, rfl, rfl⟩ : t1 = r1 ∧ t2 = r2 ∧ t3 = r3 ∧ t4 = r4 ∧ t5 = r5 ∧ false = r6 := by simpa using h
              clear h H
              go_wp2_with (first
              | (go_at_call 32; refine (impl_StateOk.calls k t1 B1 e1 t2 (some ⟨gM, 0, none⟩) e2 u3 (some ⟨gT, 0, none⟩) e3 u4 B4 e4 t5 false _ (Go.Proofs.Ytbkkehjhfgocfaa.OwnK.R_C HO1.out) (Go.Proofs.Ytbkkehjhfgocfaa.OwnK.R_cap HO1.out) (Go.Proofs.Ytbkkehjhfgocfaa.OwnK.R_C HO2.out) (Go.Proofs.Ytbkkehjhfgocfaa.OwnK.R_cap HO2.out) (Go.Proofs.Ytbkkehjhfgocfaa.OwnK.R_C HO3.out) (Go.Proofs.Ytbkkehjhfgocfaa.OwnK.R_cap HO3.out) (Go.Proofs.Ytbkkehjhfgocfaa.OwnK.R_C HO4.out) (Go.Proofs.Ytbkkehjhfgocfaa.OwnK.R_cap HO4.out) HK2.out).mono ?_
                 rintro e W5 ⟨rfl, hb⟩
                 replace HP := Aside0.mk (blk_below HP.out hb)
                 replace HZ := Aside0.mk (blk_below HZ.out hb)
                 replace HB := Aside0.mk (below_step HB.out hb)
                 replace HO1 := Aside0.mk (Kd.R_below HO1.out hb)
                 replace HO2 := Aside0.mk (Kd.R_below HO2.out hb)
                 replace HO3 := Aside0.mk (Kd.R_below HO3.out hb)
                 replace HO4 := Aside0.mk (Kd.R_below HO4.out hb)
                 replace BM := Aside0.mk (blk_below BM.out hb)
                 clear hm0 hm1 hm2 hm3 hm4
                 have hp0 : W5.cell? ⟨w.heap.size, 0, none⟩ = some (.int .i64 a0_0) := (blk_cell HP.out 0).trans rfl
                 have hp1 : W5.cell? ⟨w.heap.size, 1, none⟩ = some (.slice A0_1 l0_1.length c0_1) := (blk_cell HP.out 1).trans rfl
                 have hp2 : W5.cell? ⟨w.heap.size, 2, none⟩ = some (.slice A0_2 l0_2.length c0_2) := (blk_cell HP.out 2).trans rfl
                 have hp3 : W5.cell? ⟨w.heap.size, 3, none⟩ = some (.slice A0_3 l0_3.length c0_3) := (blk_cell HP.out 3).trans rfl
                 have hp4 : W5.cell? ⟨w.heap.size, 4, none⟩ = some (.slice A0_4 l0_4.length c0_4) := (blk_cell HP.out 4).trans rfl
                 clear hb )
              | (go_at_call 48; refine (impl_copyState.calls a0_0 A0_1 c0_1 l0_1 A0_2 c0_2 l0_2 A0_3 c0_3 l0_3 A0_4 c0_4 l0_4 t1 t2 t3 t4 t5 _ (Kd.C_below HR1.out HB.out) hc0_1 (Kd.C_below HR2.out HB.out) hc0_2 (Kd.C_below HR3.out HB.out) hc0_3 (Kd.C_below HR4.out HB.out) hc0_4 HC.out).mono ?_
                 rintro e W6 ⟨v1, v2, v3, v4, rfl, ho1, ho2, ho3, ho4, hb⟩
                 obtain ⟨D1, f1, rfl⟩ := Kd.R_slice ho1
                 obtain ⟨D2, f2, rfl⟩ := Kd.R_slice ho2
                 obtain ⟨D3, f3, rfl⟩ := Kd.R_slice ho3
                 obtain ⟨D4, f4, rfl⟩ := Kd.R_slice ho4
                 have HSZ := HB.out.size
                 replace HZ := Aside0.mk (blk_below HZ.out hb)
                 replace HB := Aside0.mk (below_step HB.out hb)
                 have HO1 := Aside0.mk (Kd.R_lower ho1 (base' := w.heap.size) HSZ)
                 have HO2 := Aside0.mk (Kd.R_lower ho2 (base' := w.heap.size) HSZ)
                 have HO3 := Aside0.mk (Kd.R_lower ho3 (base' := w.heap.size) HSZ)
                 have HO4 := Aside0.mk (Kd.R_lower ho4 (base' := w.heap.size) HSZ)
                 have hz0 : W6.cell? ⟨w.heap.size + 1, 0, none⟩ = some (.int .i64 0) := (blk_cell HZ.out 0).trans rfl
                 have hz1 : W6.cell? ⟨w.heap.size + 1, 1, none⟩ = some (.slice none 0 0) := (blk_cell HZ.out 1).trans rfl
                 have hz2 : W6.cell? ⟨w.heap.size + 1, 2, none⟩ = some (.slice none 0 0) := (blk_cell HZ.out 2).trans rfl
                 have hz3 : W6.cell? ⟨w.heap.size + 1, 3, none⟩ = some (.slice none 0 0) := (blk_cell HZ.out 3).trans rfl
                 have hz4 : W6.cell? ⟨w.heap.size + 1, 4, none⟩ = some (.slice none 0 0) := (blk_cell HZ.out 4).trans rfl
                 have hf0 := blk_frozen HZ.out 0
                 have hf1 := blk_frozen HZ.out 1
                 have hf2 := blk_frozen HZ.out 2
                 have hf3 := blk_frozen HZ.out 3
                 have hf4 := blk_frozen HZ.out 4
                 clear ho1 ho2 ho3 ho4 hb hp0 hp1 hp2 hp3 hp4))
              refine bodyPost_ret (results_ct rfl _ _ (w.heap.size + 1) 29 #[.int .i64 t1, .slice D1 t2.length f1, .slice D2 t3.length f2, .slice D3 t4.length f3, .slice D4 t5.length f4] (0, 0) _ rfl (by refine blk_put (cs := #[.int .i64 t1, .slice D1 t2.length f1, .slice D2 t3.length f2, .slice D3 t4.length f3, .slice none 0 0]) ?_ 4 _ rfl; refine blk_put (cs := #[.int .i64 t1, .slice D1 t2.length f1, .slice D2 t3.length f2, .slice none 0 0, .slice none 0 0]) ?_ 3 _ rfl; refine blk_put (cs := #[.int .i64 t1, .slice D1 t2.length f1, .slice none 0 0, .slice none 0 0, .slice none 0 0]) ?_ 2 _ rfl; refine blk_put (cs := #[.int .i64 t1, .slice none 0 0, .slice none 0 0, .slice none 0 0, .slice none 0 0]) ?_ 1 _ rfl; refine blk_put (cs := #[.int .i64 0, .slice none 0 0, .slice none 0 0, .slice none 0 0, .slice none 0 0]) ?_ 0 _ rfl; exact HZ.out) Try.underlying29 rfl (by kernel_rfl)) rfl ?_
              exact ⟨_, _, _, _, rfl, Kd.R_mono (Kd.R_far (p := ⟨w.heap.size + 1, 4, none⟩) (Kd.R_far (p := ⟨w.heap.size + 1, 3, none⟩) (Kd.R_far (p := ⟨w.heap.size + 1, 2, none⟩) (Kd.R_far (p := ⟨w.heap.size + 1, 1, none⟩) (Kd.R_far (p := ⟨w.heap.size + 1, 0, none⟩) (Kd.R_types HO1.out HZ.out (by decide)) (fun _ hk => hk.2) _) (fun _ hk => hk.2) _) (fun _ hk => hk.2) _) (fun _ hk => hk.2) _) (fun _ hk => hk.2) _) (fun _ hk => trivial), Kd.R_mono (Kd.R_far (p := ⟨w.heap.size + 1, 4, none⟩) (Kd.R_far (p := ⟨w.heap.size + 1, 3, none⟩) (Kd.R_far (p := ⟨w.heap.size + 1, 2, none⟩) (Kd.R_far (p := ⟨w.heap.size + 1, 1, none⟩) (Kd.R_far (p := ⟨w.heap.size + 1, 0, none⟩) (Kd.R_types HO2.out HZ.out (by decide)) (fun _ hk => hk.2) _) (fun _ hk => hk.2) _) (fun _ hk => hk.2) _) (fun _ hk => hk.2) _) (fun _ hk => hk.2) _) (fun _ hk => hk.1), Kd.R_mono (Kd.R_far (p := ⟨w.heap.size + 1, 4, none⟩) (Kd.R_far (p := ⟨w.heap.size + 1, 3, none⟩) (Kd.R_far (p := ⟨w.heap.size + 1, 2, none⟩) (Kd.R_far (p := ⟨w.heap.size + 1, 1, none⟩) (Kd.R_far (p := ⟨w.heap.size + 1, 0, none⟩) (Kd.R_types HO3.out HZ.out (by decide)) (fun _ hk => hk.2) _) (fun _ hk => hk.2) _) (fun _ hk => hk.2) _) (fun _ hk => hk.2) _) (fun _ hk => hk.2) _) (fun _ hk => hk.1), Kd.R_mono (Kd.R_far (p := ⟨w.heap.size + 1, 4, none⟩) (Kd.R_far (p := ⟨w.heap.size + 1, 3, none⟩) (Kd.R_far (p := ⟨w.heap.size + 1, 2, none⟩) (Kd.R_far (p := ⟨w.heap.size + 1, 1, none⟩) (Kd.R_far (p := ⟨w.heap.size + 1, 0, none⟩) (Kd.R_types HO4.out HZ.out (by decide)) (fun _ hk => hk.2) _) (fun _ hk => hk.2) _) (fun _ hk => hk.2) _) (fun _ hk => hk.2) _) (fun _ hk => hk.2) _) (fun _ hk => hk.1), ((((HB.out.setCell (by show w.heap.size ≤ w.heap.size + 1; omega) _).setCell (by show w.heap.size ≤ w.heap.size + 1; omega) _).setCell (by show w.heap.size ≤ w.heap.size + 1; omega) _).setCell (by show w.heap.size ≤ w.heap.size + 1; omega) _).setCell (by show w.heap.size ≤ w.heap.size + 1; omega) _⟩
          · rw [if_neg hl3] at h; cases h
        · rw [if_neg hl2] at h; cases h
      · rw [if_neg h0] at h; cases h

end Go.Proofs.Ytbkkehjhfgocfaa.PFnExactPutCell
