/- The row of FnExactPutCell over its plain statement (in YtbkkehjhfgocfaaPureFnExactPutCell) and the printed walk; no condition. -/
import Derived.Test.YtbkkehjhfgocfaaRows
import Derived.Test.YtbkkehjhfgocfaaPFnExactPutCellx13
import Derived.Test.YtbkkehjhfgocfaaPureFnExactPutCell
import Derived.Test.YtbkkehjhfgocfaaArgsFnExactPutCell
import Derived.WalkKit
import Derived.ProofKit
import Derived.OpenShut
import Derived.ShutString
import Derived.ChangeOld
import Derived.Below
import Derived.SizedLaws
namespace Go.Proofs.Ytbkkehjhfgocfaa.fnExactPutCell
open Go.ChangeShapes Go.WideShapes Go.ChangeAt Go.RowKit Go.Proofs.YtbkkehjhfgocfaaW.PrintWords Go.Proofs.Ytbkkehjhfgocfaa.Args Go.Proofs.Ytbkkehjhfgocfaa.PFnExactPutCell
open Go.ChangeMaps (open_string shut_string)
set_option linter.unusedVariables false
theorem own : ownKnob Try.prog.godebug = none := by kernel_rfl
theorem laidOut : laidOutB Try.prog = true := by kernel_rfl
theorem opensArg0 : Opens Try.prog 43 (Kd.pair (Kd.pair (Kd.int .i64) (Kd.slice 101 k101)) (Kd.pair (Kd.slice 3 (Kd.int .i64)) (Kd.pair (Kd.slice 3 (Kd.int .i64)) (Kd.slice 3 (Kd.int .i64))))) := (opens_struct Try.underlying43 (opens_cons _ rfl rfl (by kernel_rfl) (opens_struct Try.underlying41 (opens_cons _ rfl rfl (by kernel_rfl) (opens_int Try.underlying3) (opens_last _ rfl rfl (by kernel_rfl) (by kernel_rfl) (opens_slice Try.underlying39 (by kernel_rfl) (opens_iso _ (fun a => ⟨a.1, a.2.1, a.2.2⟩) (fun _ => rfl) (opens_struct Try.underlying101 (opens_cons _ rfl rfl (by kernel_rfl) (opens_int Try.underlying3) (opens_cons _ rfl rfl (by kernel_rfl) (opens_int Try.underlying3) (opens_last _ rfl rfl (by kernel_rfl) (by kernel_rfl) (opens_int Try.underlying3)))))))))) (opens_cons _ rfl rfl (by kernel_rfl) (opens_slice Try.underlying27 (by kernel_rfl) (opens_int Try.underlying3)) (opens_cons _ rfl rfl (by kernel_rfl) (opens_slice Try.underlying27 (by kernel_rfl) (opens_int Try.underlying3)) (opens_last _ rfl rfl (by kernel_rfl) (by kernel_rfl) (opens_slice Try.underlying27 (by kernel_rfl) (opens_int Try.underlying3)))))))
set_option maxRecDepth 100000 in
theorem lifted (os : Os) (started : os.Started) (H : Type) (enc : TypeId × Value → H) :
    ReturnsInHanded {} Try.checked os 12 .any (Rows.fnExactPutCellSpec.pre6 enc Try.prog Try.f12 Rows.fnExactPutCellRow.domain false) (Rows.fnExactPutCellSpec.post enc Try.prog Try.f12 false true false false) := by
  refine returnsInHanded_of_change_sized (C := Try.checked) own started (by kernel_rfl) Try.func12
    (ChangeSpec.witness6 (enc := enc) (C := Try.checked) false ⟨#[], #[.agg #[.int .i64 0, .slice none 0 0, .slice none 0 0, .slice none 0 0, .slice none 0 0], .int .i64 0, .int .i64 0, .int .i64 0], []⟩ 8 (by kernel_rfl) (by kernel_rfl) (by kernel_rfl) (by kernel_rfl)) ?_
  intro W base args ds gs before hval0 hW hcnd hsz0 _
  have hsz : (DataW.weightsEach Try.prog (Try.f12.params.toList ++ Rows.fnExactPutCellSpec.plain.varTypes Try.prog) (ds ++ gs)).all (· ≤ reachBytes) = true := hsz0
  have hval : ∀ (j : Nat) t v, Try.f12.params[j]? = some t → args[j]? = some v → Value.okWide Try.prog W .any base t v := hval0
  have hW' := hW
  obtain ⟨p, q, hA0, hV, rfl, hfz, hnd⟩ := hW
  have hA : DataW.TrodAll enc Try.prog W 0 (fun _ => true) true Try.f12.params.toList args.toList ds p := hA0
  rw [Try.params12] at hA hval hsz
  obtain ⟨v0, vs0, d0, ds0, p0, q0, hargs, rfl, rfl, h0, r0⟩ := trodAll_cons hA
  obtain ⟨v1, vs1, d1, ds1, p1, q1, rfl, rfl, rfl, h1, r1⟩ := trodAll_cons r0
  obtain ⟨v2, vs2, d2, ds2, p2, q2, rfl, rfl, rfl, h2, r2⟩ := trodAll_cons r1
  obtain ⟨v3, vs3, d3, ds3, p3, q3, rfl, rfl, rfl, h3, r3⟩ := trodAll_cons r2
  obtain ⟨rfl, rfl, rfl⟩ := trodAll_nil r3
  obtain rfl : args = #[v0, v1, v2, v3] := by cases args; simp_all
  obtain ⟨rfl, rfl⟩ := trodVars_none hV
  have k0 := h0
  have lt0 : ∀ x ∈ p0, x.block < W.heap.size := by obtain ⟨m, hm⟩ := k0; exact DataW.trod_lt m _ _ _ hm
  obtain ⟨⟨⟨a0_0, l0_1⟩, ⟨l0_2, ⟨l0_3, l0_4⟩⟩⟩, cs0, hk0, hv0⟩ := opens_agg Try.underlying43 opensArg0 (hval 0 43 v0 rfl rfl) h0
  obtain ⟨_, _, rfl, ⟨_, _, rfl, rfl, ⟨A0_1, c0_1, rfl, hc0_1, hr0_1⟩⟩, ⟨_, _, rfl, ⟨A0_2, c0_2, rfl, hc0_2, hr0_2⟩, ⟨_, _, rfl, ⟨A0_3, c0_3, rfl, hc0_3, hr0_3⟩, ⟨A0_4, c0_4, rfl, hc0_4, hr0_4⟩⟩⟩⟩ := hk0
  have hv0' : v0 = .agg #[.int .i64 a0_0, .slice A0_1 l0_1.length c0_1, .slice A0_2 l0_2.length c0_2, .slice A0_3 l0_3.length c0_3, .slice A0_4 l0_4.length c0_4] := hv0
  subst hv0'
  clear hv0
  obtain ⟨a1, rfl, rfl, rfl, w1⟩ := open_int Try.underlying3 (hval 1 3 v1 rfl rfl) h1
  obtain ⟨a2, rfl, rfl, rfl, w2⟩ := open_int Try.underlying3 (hval 2 3 v2 rfl rfl) h2
  obtain ⟨a3, rfl, rfl, rfl, w3⟩ := open_int Try.underlying3 (hval 3 3 v3 rfl rfl) h3
  clear hA0 hval0 hsz0 hsz
  refine (Pure.FnExactPutCell a0_0 A0_1 A0_2 A0_3 A0_4 c0_1 c0_2 c0_3 c0_4 l0_1 l0_2 l0_3 l0_4 a1 a2 a3 W ⟨hr0_1, hc0_1, hr0_2, hc0_2, hr0_3, hc0_3, hr0_4, hc0_4⟩).mono fun e W' ⟨he, bel0⟩ => ?_
  have bel : Below W.heap.size W W' := bel0
  subst he
  exact ⟨_, rfl, _, _, _, [], _, [], hW', trodAll_mk1 (shut_bool Try.underlying4 _), (trodAll_cons_mk (Below.trod laidOut (by kernel_rfl) (of_decide_eq_true (by kernel_rfl)) k0 bel lt0) (trodAll_cons_mk (shut_int Try.underlying3 w1) (trodAll_cons_mk (shut_int Try.underlying3 w2) (trodAll_cons_mk (shut_int Try.underlying3 w3) trodAll_mk0)))), rfl, bel.frame _, fun h => by cases h⟩
theorem over : Rows.fnExactPutCellRow.holds Try.pinned (OpenSpec.ofChange Rows.fnExactPutCellSpec) :=
  OpenClaim.holds_of_wide 12 Try.f12 rfl rfl rfl rfl rfl rfl rfl ⟨rfl, rfl, rfl, rfl, rfl⟩ rfl rfl rfl rfl rfl (by kernel_rfl) Try.func12 (by kernel_rfl)
    (of_decide_eq_true (by kernel_rfl)) (by unfold Func.isWrapper; first | (rw [if_pos (by decide +kernel)]; kernel_rfl) | (rw [if_neg (by decide +kernel)]; exact ⟨rfl, rfl⟩))
    (fun os started H enc _ => lifted os started H enc)
theorem proved : Rows.FnExactPutCellSaid := over
#print axioms proved
end Go.Proofs.Ytbkkehjhfgocfaa.fnExactPutCell
namespace Go.Proofs.Ytbkkehjhfgocfaa
/-- The row, under a short name, for the claim. -/
theorem fnExactPutCell_holds : Rows.FnExactPutCellSaid := fnExactPutCell.proved
end Go.Proofs.Ytbkkehjhfgocfaa
