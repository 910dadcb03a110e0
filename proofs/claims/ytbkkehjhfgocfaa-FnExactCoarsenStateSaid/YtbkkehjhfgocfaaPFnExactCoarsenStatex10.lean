/- Written by this repo's own copy of a print: plain functions beneath a law, and the proof that the program computes them; no condition. -/
import Derived.Test.YtbkkehjhfgocfaaPFnExactCoarsenStatex0
import Derived.Test.YtbkkehjhfgocfaaPFnExactCoarsenStatex8
import Derived.Test.YtbkkehjhfgocfaaPFnExactCoarsenStatex5
namespace Go.Proofs.Ytbkkehjhfgocfaa.PFnExactCoarsenState
open Go.RowKit Go.Proofs.YtbkkehjhfgocfaaW.PrintWords Go.Proofs.YtbkkehjhfgocfaaW.PrintLast Go.Proofs.YtbkkehjhfgocfaaW.PrintMore
attribute [local go_sem] max2_int min2_int max_two min_two max_three min_three max_four min_four   -- for this text's walks alone
set_option linter.unusedVariables false
set_option linter.unusedSimpArgs false

def spec_IsSibling.f (a0_0 : Int) (a0_1 : Int) (a0_2 : Int) (a1_0 : Int) (a1_1 : Int) (a1_2 : Int) : Option (Bool) := (spec_IdOk.f a0_0 a0_1 a0_2).bind fun t283 => (if t283 = true then ((spec_IdOk.f a1_0 a1_1 a1_2).bind fun t284 => (if t284 = true then (if a0_0 = a1_0 then (if a0_1 = a1_1 then (if (Int.tmod a0_2 2) = 0 then (some (a1_2 == (wrap64 (a0_2 + 1)))) else (some false)) else (some false)) else (some false)) else (some false))) else (some false))
set_option maxHeartbeats 8000000 in
set_option maxRecDepth 100000 in
theorem spec_IsSibling.calls (a0_0 : Int) (a0_1 : Int) (a0_2 : Int) (a1_0 : Int) (a1_1 : Int) (a1_2 : Int) (r : Bool) (w : World) (h : spec_IsSibling.f a0_0 a0_1 a0_2 a1_0 a1_1 a1_2 = some r) :
  Calls Try.prog 96 #[.agg #[.int .i64 a0_0, .int .i64 a0_1, .int .i64 a0_2], .agg #[.int .i64 a1_0, .int .i64 a1_1, .int .i64 a1_2]] w fun e w' => e = .returned (.bool r) ∧ Below w.heap.size w w' := by
  have hu36 := Try.underlying36
  unfold spec_IsSibling.f at h
  obtain ⟨o1, hp, h⟩ := Option.bind_eq_some_iff.1 h
  have key : ∃ o2, (o1 = true → spec_IdOk.f a1_0 a1_1 a1_2 = some o2) ∧ ((o1 = false ∧ false = r) ∨ (o1 = true ∧ o2 = false ∧ false = r) ∨ (o1 = true ∧ o2 = true ∧ (a0_0 == a1_0) = false ∧ false = r) ∨ (o1 = true ∧ o2 = true ∧ (a0_0 == a1_0) = true ∧ (a0_1 == a1_1) = false ∧ false = r) ∨ (o1 = true ∧ o2 = true ∧ (a0_0 == a1_0) = true ∧ (a0_1 == a1_1) = true ∧ ((Int.tmod a0_2 2) == 0) = false ∧ false = r) ∨ (o1 = true ∧ o2 = true ∧ (a0_0 == a1_0) = true ∧ (a0_1 == a1_1) = true ∧ ((Int.tmod a0_2 2) == 0) = true ∧ (a1_2 == (wrap64 (a0_2 + 1))) = r)) := by
    cases o1
    · exact ⟨false, by simp, .inl ⟨rfl, by simpa using h⟩⟩
    · obtain ⟨o2, hq, h⟩ := Option.bind_eq_some_iff.1 (by simpa using h)
      refine ⟨o2, fun _ => hq, ?_⟩
      revert h
      cases o2 <;> (by_cases c0 : a0_0 = a1_0) <;> (by_cases c1 : a0_1 = a1_1) <;> (by_cases c : (Int.tmod a0_2 2) = 0) <;> simp [c0, c1, c]
  obtain ⟨o2, hq, key⟩ := key
  have HP := Aside0.mk hp
  clear h hp
  rcases key with ⟨rfl, rfl⟩ | ⟨rfl, rfl, rfl⟩ | ⟨rfl, rfl, c0, rfl⟩ | ⟨rfl, rfl, c0, c1, rfl⟩ | ⟨rfl, rfl, c0, c1, c2, rfl⟩ | ⟨rfl, rfl, c0, c1, c2, rfl⟩
  all_goals
    try have HQ := Aside0.mk (hq rfl)
    clear hq
    go_enter Try.func96, Try.ntmps96
    go_wp2_with (first
     | ((with_reducible refine gate_dst (N := 2) rfl ?_); refine box_event ?hg (N := 2) ?hd (cs := #[.int .i64 a0_0, .int .i64 a0_1, .int .i64 a0_2]) (t := 36) ?hr ?_; (case hd => rfl); (case hg => rfl); (case hr => first | (go_simp; done) | (go_simp; rfl)); intro gA hg wZ hbox hb; have GEA := Aside0.mk (by rw [hg]; exact Nat.le_refl _ : w.heap.size ≤ gA); have BA := Aside0.mk hbox; have HB := Aside0.mk hb; clear hb hbox hg; have hzA := cells3 BA.out)
     | ((with_reducible refine gate_dst (N := 3) rfl ?_); refine box_event ?hg (N := 3) ?hd (cs := #[.int .i64 a1_0, .int .i64 a1_1, .int .i64 a1_2]) (t := 36) ?hr ?_; (case hd => rfl); (case hg => rfl); (case hr => first | (go_simp; done) | (go_simp; rfl)); intro gB hg w_3 hbox hb; have GEB := Aside0.mk (by rw [hg]; exact HB.out.size : w.heap.size ≤ gB); have NAB := Aside0.mk (by rw [hg]; exact Nat.ne_of_lt (blk_lt BA.out) : gA ≠ gB); have NBA := Aside0.mk (Ne.symm NAB.out); have nAB := NAB.out; have nBA := NBA.out; replace BA := Aside0.mk (blk_below BA.out hb); replace HB := Aside0.mk (below_step HB.out hb); clear hzA hb hg; have BB := Aside0.mk hbox; clear hbox; have hzA := cells3 BA.out; have hzB := cells3 BB.out)
     | ((with_reducible refine gate_dst (N := 6) rfl ?_); refine goesL_ (some 6) rfl rfl Try.func93 (by kernel_rfl) rfl #[.agg #[.int .i64 a0_0, .int .i64 a0_1, .int .i64 a0_2]] rfl (by first | rfl | (simp only [List.map_toArray, List.map_cons, List.map_nil]; rfl)) ?_; refine (spec_IdOk.calls a0_0 a0_1 a0_2 _ _ HP.out).mono ?_; rintro e w6 ⟨rfl, hb⟩; refine ⟨_, rfl, ?_⟩; replace BA := Aside0.mk (blk_below BA.out hb); replace BB := Aside0.mk (blk_below BB.out hb); replace HB := Aside0.mk (below_step HB.out hb); clear hzA hzB hb; have hzA := cells3 BA.out; have hzB := cells3 BB.out)
     | (go_at_call 93; refine (spec_IdOk.calls a1_0 a1_1 a1_2 _ _ HQ.out).mono ?_; rintro e w9 ⟨rfl, hb⟩; replace BA := Aside0.mk (blk_below BA.out hb); replace BB := Aside0.mk (blk_below BB.out hb); replace HB := Aside0.mk (below_step HB.out hb); clear hzA hzB hb; have hzA := cells3 BA.out; have hzB := cells3 BB.out))
    go_ret
    exact ⟨by first | rfl | (simp [*] <;> rfl), HB.out⟩
end Go.Proofs.Ytbkkehjhfgocfaa.PFnExactCoarsenState
