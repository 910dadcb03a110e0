/- The row of FnExactFormatMesh over its plain statement (in YtpjmlgcpeebkdaaDoorPureFnExactFormatMesh) and the printed walk; no condition. -/
import Derived.Test.YtpjmlgcpeebkdaaDoorRows
import Derived.Test.YtpjmlgcpeebkdaaDoorCards
import Derived.Test.YtpjmlgcpeebkdaaDoorTie
import Derived.LaidMore
import Derived.Stop.Joined
import Derived.SevenTiedAt
import Derived.Test.YtpjmlgcpeebkdaaDoorPFnExactFormatMeshx4
import Derived.Test.YtpjmlgcpeebkdaaDoorPureFnExactFormatMesh
import Derived.Test.YtpjmlgcpeebkdaaDoorArgs
import Derived.WalkKit
import Derived.ProofKit
import Derived.OpenShut
import Derived.ShutString
import Derived.ChangeOld
import Derived.Below
import Derived.SizedLaws
namespace Go.Proofs.YtpjmlgcpeebkdaaDoor.fnExactFormatMesh
open Go.ChangeShapes Go.WideShapes Go.ChangeAt Go.RowKit Go.Proofs.YtpjmlgcpeebkdaaDoorW.PrintWords Go.Proofs.YtpjmlgcpeebkdaaDoor.Args Go.Proofs.YtpjmlgcpeebkdaaDoor.PFnExactFormatMesh
open Go.ChangeMaps (open_string shut_string)
set_option linter.unusedVariables false
theorem own : ownKnob Tryd.prog.godebug = none := by kernel_rfl
theorem laidOut : laidOutB Tryd.prog = true := by kernel_rfl
theorem opensArg0 : Opens Tryd.prog 37 (Kd.pair (Kd.int .i64) (Kd.slice 97 k97)) := (opens_struct Tryd.underlying37 (opens_cons _ rfl rfl (by kernel_rfl) (opens_int Tryd.underlying3) (opens_last _ rfl rfl (by kernel_rfl) (by kernel_rfl) (opens_slice Tryd.underlying35 (by kernel_rfl) (opens_iso _ (fun a => ⟨a.1, a.2.1, a.2.2⟩) (fun _ => rfl) (opens_struct Tryd.underlying97 (opens_cons _ rfl rfl (by kernel_rfl) (opens_int Tryd.underlying3) (opens_cons _ rfl rfl (by kernel_rfl) (opens_int Tryd.underlying3) (opens_last _ rfl rfl (by kernel_rfl) (by kernel_rfl) (opens_int Tryd.underlying3))))))))))
set_option maxRecDepth 100000 in
theorem door_met (os : Os) (args : Array Value) : laidMetH Tryd.prog Rows.fnExactFormatMeshRow.laid ((World.doorLaid Tryd.prog 86 os).forCall (fun _ _ => 0) ⟨#[], args, []⟩).memory :=
  laidMetH_of_parts3 (fuel := 8) (laidMet_of_run' 8 (by kernel_rfl) (by kernel_rfl)) (by kernel_rfl) (by kernel_rfl)
set_option maxRecDepth 100000 in
theorem lifted (os : Os) (started : os.Started) (H : Type) (enc : TypeId × Value → H) :
    ReturnsInHanded {} Tryd.checked os 6 .any (fun w args => (Rows.fnExactFormatMeshSpec.pre enc Tryd.prog Tryd.f6 Rows.fnExactFormatMeshRow.domain false w args ∧ laidMetH Tryd.prog Rows.fnExactFormatMeshRow.laid w) ∧ sizedMet enc Tryd.prog Tryd.f6 (OpenSpec.ofChange Rows.fnExactFormatMeshSpec) false w args) (Rows.fnExactFormatMeshSpec.post enc Tryd.prog Tryd.f6 false true false false) := by
  refine returnsInHanded_of_change_and (C := Tryd.checked) (X := fun w _ => laidMetH Tryd.prog Rows.fnExactFormatMeshRow.laid w) (fun _ _ _ hh h => h.of_heap hh) own started (by kernel_rfl) Tryd.func6
    (ChangeSpec.witness_shaped (enc := enc) (C := Tryd.checked) (os := os) (X := fun w _ => laidMetH Tryd.prog Rows.fnExactFormatMeshRow.laid w) false (World.doorLaid Tryd.prog 86 os) #[.agg #[.int .i64 0, .slice none 0 0]] 8 rfl (World.shaped_of_RefB (by kernel_rfl) (by kernel_rfl)) (by kernel_rfl) (by kernel_rfl) (by kernel_rfl) (door_met os _)) ?_
  intro W base args ds gs before hval0 hW hcnd hsz0 hL _
  have hsz : (DataW.weightsEach Tryd.prog (Tryd.f6.params.toList ++ Rows.fnExactFormatMeshSpec.plain.varTypes Tryd.prog) (ds ++ gs)).all (· ≤ reachBytes) = true := hsz0
  have hval : ∀ (j : Nat) t v, Tryd.f6.params[j]? = some t → args[j]? = some v → Value.okWide Tryd.prog W .any base t v := hval0
  have hW' := hW
  obtain ⟨p, q, hA0, hV, rfl, hfz, hnd⟩ := hW
  have hA : DataW.TrodAll enc Tryd.prog W 0 (fun _ => true) true Tryd.f6.params.toList args.toList ds p := hA0
  rw [Tryd.params6] at hA hval hsz
  obtain ⟨v0, vs0, d0, ds0, p0, q0, hargs, rfl, rfl, h0, r0⟩ := trodAll_cons hA
  obtain ⟨rfl, rfl, rfl⟩ := trodAll_nil r0
  obtain rfl : args = #[v0] := by cases args; simp_all
  obtain ⟨rfl, rfl⟩ := trodVars_none hV
  have k0 := h0
  have lt0 : ∀ x ∈ p0, x.block < W.heap.size := by obtain ⟨m, hm⟩ := k0; exact DataW.trod_lt m _ _ _ hm
  obtain ⟨⟨a0_0, l0_1⟩, cs0, hk0, hv0⟩ := opens_agg Tryd.underlying37 opensArg0 (hval 0 37 v0 rfl rfl) h0
  obtain ⟨_, _, rfl, rfl, ⟨A0_1, c0_1, rfl, hc0_1, hr0_1⟩⟩ := hk0
  have hv0' : v0 = .agg #[.int .i64 a0_0, .slice A0_1 l0_1.length c0_1] := hv0
  subst hv0'
  clear hv0
  clear hA0 hval0 hsz0 hsz
  obtain ⟨k, hp⟩ := Pure.FnExactFormatMesh a0_0 l0_1 hr0_1.2.1
  refine (laws_FnExactFormatMesh.calls k a0_0 A0_1 c0_1 l0_1 true W hr0_1 hc0_1 hp).mono fun e W' ⟨he, bel0⟩ => ?_
  have bel : Below W.heap.size W W' := bel0
  subst he
  exact ⟨_, rfl, _, _, _, [], _, [], hW', trodAll_mk1 (shut_bool Tryd.underlying4 _), (trodAll_cons_mk (Below.trod laidOut (by kernel_rfl) (of_decide_eq_true (by kernel_rfl)) k0 bel lt0) trodAll_mk0), rfl, bel.frame _, fun h => by cases h⟩
theorem over : Rows.fnExactFormatMeshRow.holds Tryd.pinned (OpenSpec.ofChange Rows.fnExactFormatMeshSpec) :=
  OpenClaim.holds_of_wide 6 Tryd.f6 rfl rfl rfl rfl rfl rfl rfl ⟨rfl, rfl, rfl, rfl, rfl⟩ rfl rfl rfl rfl rfl (by kernel_rfl) Tryd.func6 (by kernel_rfl)
    (of_decide_eq_true (by kernel_rfl)) (by unfold Func.isWrapper; first | (rw [if_pos (by decide +kernel)]; kernel_rfl) | (rw [if_neg (by decide +kernel)]; exact ⟨rfl, rfl⟩))
    (fun os started H enc _ => lifted os started H enc)
theorem proved : Rows.FnExactFormatMeshSaid := over
theorem card : Rows.FnExactFormatMeshCardSaid :=
  Claim7.holds_tied_plain_at .later [] [.data, .data, .data] true (true, "874c5007e12237fd8f5af0d90228ecdefd1e5d6656f5cba041ca763d1d860d4c") true
    proved (fun _ h => by cases h) (by kernel_rfl) (fun _ h => by cases h) fnExactFormatMesh_row_tie rfl ⟨rfl, rfl⟩ (by kernel_rfl) rfl
    (fun f fn hf hfn => by
      obtain rfl : f = 6 := Option.some.inj ((show Tryd.prog.funcNamed "loop.example/g00982/laws.FnExactFormatMesh" = some 6 by kernel_rfl).symm.trans hf) |>.symm
      obtain rfl : fn = Tryd.f6 := (Option.some.inj (Tryd.func6.symm.trans hfn)).symm
      exact ⟨by kernel_rfl, fun j t ht => by
        rw [Tryd.params6] at ht
        have hm : t ∈ [37] := by simpa using Array.mem_of_getElem? ht
        have hall : ([37].all fun u => !Tryd.prog.wantsStandIn u) = true := by kernel_rfl
        exact (show Tryd.prog.wantsStandIn t = false by simpa using List.all_eq_true.1 hall t hm)⟩)
    (by kernel_rfl)
#print axioms card
end Go.Proofs.YtpjmlgcpeebkdaaDoor.fnExactFormatMesh
namespace Go.Proofs.YtpjmlgcpeebkdaaDoor
/-- The card, under a short name, for the claim. -/
theorem fnExactFormatMesh_holds : Rows.FnExactFormatMeshCardSaid := fnExactFormatMesh.card
end Go.Proofs.YtpjmlgcpeebkdaaDoor
