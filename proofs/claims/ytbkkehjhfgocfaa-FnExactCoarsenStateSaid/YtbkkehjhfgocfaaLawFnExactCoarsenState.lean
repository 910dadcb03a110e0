/- The row of FnExactCoarsenState over its plain statement (in YtbkkehjhfgocfaaPureFnExactCoarsenState) and the printed walk; no condition. -/
import Derived.Test.YtbkkehjhfgocfaaRows
import Derived.Test.YtbkkehjhfgocfaaPFnExactCoarsenStatex26
import Derived.Test.YtbkkehjhfgocfaaPureFnExactCoarsenState
import Derived.Test.YtbkkehjhfgocfaaArgsFnExactCoarsenState
import Derived.WalkKit
import Derived.ProofKit
import Derived.OpenShut
import Derived.ShutString
import Derived.ChangeOld
import Derived.Below
import Derived.SizedLaws
namespace Go.Proofs.Ytbkkehjhfgocfaa.fnExactCoarsenState
open Go.ChangeShapes Go.WideShapes Go.ChangeAt Go.RowKit Go.Proofs.YtbkkehjhfgocfaaW.PrintWords Go.Proofs.Ytbkkehjhfgocfaa.Args Go.Proofs.Ytbkkehjhfgocfaa.PFnExactCoarsenState
open Go.ChangeMaps (open_string shut_string)
set_option linter.unusedVariables false
theorem own : ownKnob Try.prog.godebug = none := by kernel_rfl
theorem laidOut : laidOutB Try.prog = true := by kernel_rfl
theorem opensArg0 : Opens Try.prog 43 (Kd.pair (Kd.pair (Kd.int .i64) (Kd.slice 101 k101)) (Kd.pair (Kd.slice 3 (Kd.int .i64)) (Kd.pair (Kd.slice 3 (Kd.int .i64)) (Kd.slice 3 (Kd.int .i64))))) := (opens_struct Try.underlying43 (opens_cons _ rfl rfl (by kernel_rfl) (opens_struct Try.underlying41 (opens_cons _ rfl rfl (by kernel_rfl) (opens_int Try.underlying3) (opens_last _ rfl rfl (by kernel_rfl) (by kernel_rfl) (opens_slice Try.underlying39 (by kernel_rfl) (opens_iso _ (fun a => ⟨a.1, a.2.1, a.2.2⟩) (fun _ => rfl) (opens_struct Try.underlying101 (opens_cons _ rfl rfl (by kernel_rfl) (opens_int Try.underlying3) (opens_cons _ rfl rfl (by kernel_rfl) (opens_int Try.underlying3) (opens_last _ rfl rfl (by kernel_rfl) (by kernel_rfl) (opens_int Try.underlying3)))))))))) (opens_cons _ rfl rfl (by kernel_rfl) (opens_slice Try.underlying27 (by kernel_rfl) (opens_int Try.underlying3)) (opens_cons _ rfl rfl (by kernel_rfl) (opens_slice Try.underlying27 (by kernel_rfl) (opens_int Try.underlying3)) (opens_last _ rfl rfl (by kernel_rfl) (by kernel_rfl) (opens_slice Try.underlying27 (by kernel_rfl) (opens_int Try.underlying3)))))))
set_option maxRecDepth 100000 in
theorem lifted (os : Os) (started : os.Started) (H : Type) (enc : TypeId × Value → H) :
    ReturnsInHanded {} Try.checked os 4 .any (Rows.fnExactCoarsenStateSpec.pre6 enc Try.prog Try.f4 Rows.fnExactCoarsenStateRow.domain false) (Rows.fnExactCoarsenStateSpec.post enc Try.prog Try.f4 false true false false) := by
  refine returnsInHanded_of_change_sized (C := Try.checked) own started (by kernel_rfl) Try.func4
    (ChangeSpec.witness6 (enc := enc) (C := Try.checked) false ⟨#[], #[.agg #[.int .i64 0, .slice none 0 0, .slice none 0 0, .slice none 0 0, .slice none 0 0], .int .i64 0], []⟩ 8 (by kernel_rfl) (by kernel_rfl) (by kernel_rfl) (by kernel_rfl)) ?_
  intro W base args ds gs before hval0 hW hcnd hsz0 _
  have hsz : (DataW.weightsEach Try.prog (Try.f4.params.toList ++ Rows.fnExactCoarsenStateSpec.plain.varTypes Try.prog) (ds ++ gs)).all (· ≤ reachBytes) = true := hsz0
  have hval : ∀ (j : Nat) t v, Try.f4.params[j]? = some t → args[j]? = some v → Value.okWide Try.prog W .any base t v := hval0
  have hW' := hW
  obtain ⟨p, q, hA0, hV, rfl, hfz, hnd⟩ := hW
  have hA : DataW.TrodAll enc Try.prog W 0 (fun _ => true) true Try.f4.params.toList args.toList ds p := hA0
  rw [Try.params4] at hA hval hsz
  obtain ⟨v0, vs0, d0, ds0, p0, q0, hargs, rfl, rfl, h0, r0⟩ := trodAll_cons hA
  obtain ⟨v1, vs1, d1, ds1, p1, q1, rfl, rfl, rfl, h1, r1⟩ := trodAll_cons r0
  obtain ⟨rfl, rfl, rfl⟩ := trodAll_nil r1
  obtain rfl : args = #[v0, v1] := by cases args; simp_all
  obtain ⟨rfl, rfl⟩ := trodVars_none hV
  have k0 := h0
  have lt0 : ∀ x ∈ p0, x.block < W.heap.size := by obtain ⟨m, hm⟩ := k0; exact DataW.trod_lt m _ _ _ hm
  obtain ⟨⟨⟨a0_0, l0_1⟩, ⟨l0_2, ⟨l0_3, l0_4⟩⟩⟩, cs0, hk0, hv0⟩ := opens_agg Try.underlying43 opensArg0 (hval 0 43 v0 rfl rfl) h0
  obtain ⟨_, _, rfl, ⟨_, _, rfl, rfl, ⟨A0_1, c0_1, rfl, hc0_1, hr0_1⟩⟩, ⟨_, _, rfl, ⟨A0_2, c0_2, rfl, hc0_2, hr0_2⟩, ⟨_, _, rfl, ⟨A0_3, c0_3, rfl, hc0_3, hr0_3⟩, ⟨A0_4, c0_4, rfl, hc0_4, hr0_4⟩⟩⟩⟩ := hk0
  have hv0' : v0 = .agg #[.int .i64 a0_0, .slice A0_1 l0_1.length c0_1, .slice A0_2 l0_2.length c0_2, .slice A0_3 l0_3.length c0_3, .slice A0_4 l0_4.length c0_4] := hv0
  subst hv0'
  clear hv0
  obtain ⟨a1, rfl, rfl, rfl, w1⟩ := open_int Try.underlying3 (hval 1 3 v1 rfl rfl) h1
  clear hA0 hval0 hsz0 hsz
  refine (Pure.FnExactCoarsenState a0_0 A0_1 A0_2 A0_3 A0_4 c0_1 c0_2 c0_3 c0_4 l0_1 l0_2 l0_3 l0_4 a1 W ⟨hr0_1, hc0_1, hr0_2, hc0_2, hr0_3, hc0_3, hr0_4, hc0_4⟩).mono fun e W' ⟨he, bel0⟩ => ?_
  have bel : Below W.heap.size W W' := bel0
  subst he
  exact ⟨_, rfl, _, _, _, [], _, [], hW', trodAll_mk1 (shut_bool Try.underlying4 _), (trodAll_cons_mk (Below.trod laidOut (by kernel_rfl) (of_decide_eq_true (by kernel_rfl)) k0 bel lt0) (trodAll_cons_mk (shut_int Try.underlying3 w1) trodAll_mk0)), rfl, bel.frame _, fun h => by cases h⟩
theorem over : Rows.fnExactCoarsenStateRow.holds Try.pinned (OpenSpec.ofChange Rows.fnExactCoarsenStateSpec) :=
  OpenClaim.holds_of_wide 4 Try.f4 rfl rfl rfl rfl rfl rfl rfl ⟨rfl, rfl, rfl, rfl, rfl⟩ rfl rfl rfl rfl rfl (by kernel_rfl) Try.func4 (by kernel_rfl)
    (of_decide_eq_true (by kernel_rfl)) (by unfold Func.isWrapper; first | (rw [if_pos (by decide +kernel)]; kernel_rfl) | (rw [if_neg (by decide +kernel)]; exact ⟨rfl, rfl⟩))
    (fun os started H enc _ => lifted os started H enc)
theorem proved : Rows.FnExactCoarsenStateSaid := over
#print axioms proved
end Go.Proofs.Ytbkkehjhfgocfaa.fnExactCoarsenState
namespace Go.Proofs.Ytbkkehjhfgocfaa
/-- The row, under a short name, for the claim. -/
theorem fnExactCoarsenState_holds : Rows.FnExactCoarsenStateSaid := fnExactCoarsenState.proved
end Go.Proofs.Ytbkkehjhfgocfaa
