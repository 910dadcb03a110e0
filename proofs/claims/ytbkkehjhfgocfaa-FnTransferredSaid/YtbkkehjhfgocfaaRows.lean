/-
  No cell of these rows narrows 'for every input' (looked for: loops, veiled, ifaces, maps, wideKeys, modest, calm, conditions, laid).
  DERIVED. THE GIVEN ROWS OF THIS SEAT. 10 by the template 'for every input the law returns true; each argument reads behind the call as it read before'; 0 by the template 'total and deterministic' (their statements: YtbkkehjhfgocfaaTotals.lean).
  GIVEN WITH THE SEED: the statements are not yours to turn. If you find one false, say at which input.
  Laid BY PROGRAM, IN A SANDBOX (cutbox-rows.mjs): the forced cells as the released guide's own fill.sh prints them over the translation 86094cbf041f0206… (all of the seat's roots in one cut). By AI agents, Wed Nov 11 2026. No macro, syntax, notation, axiom, sorry.
-/
import Derived.Test.YtbkkehjhfgocfaaChecked
import GoSem.Claim
import GoSem.ClaimJoined
import GoSem.ClaimMapViews
import Derived.JoinedTies
import Derived.KernelRfl
namespace Go.Proofs.Ytbkkehjhfgocfaa
/- THE CELL 'sum', in the pinned program and in every row, IS THE sha256 OF THE DUMP (.gsa) THAT YtbkkehjhfgocfaaProg.lean LOADS. Nothing in Lean hashes anything: it is a label: what it is worth is what the hold of that sum in a sandbox is worth. -/
noncomputable def Try.pinned : Pinned := { name := "ytbkkehjhfgocfaa", sum := "86094cbf041f02065cf97c3275ed2710fcac6832c45829001cf01ee0f54655ff", checked := Try.checked }
namespace Rows
def none {H : Type} : Left H := { results := [], args := [] }

/-- 'laws.FnTransferred': WHATEVER THE INPUT: true; the input reads as it did. -/
def fnTransferredSpec : ChangeSpec := { name := "fnTransferred", fn := fun _ => fun
  | [d] => { results := [.lit (.bool true)], args := [d] }
  | _ => none }
def fnTransferredRow : OpenClaim := { program := "ytbkkehjhfgocfaa", sum := "86094cbf041f02065cf97c3275ed2710fcac6832c45829001cf01ee0f54655ff", func := "loop.example/g00982/laws.FnTransferred", spec := "fnTransferred", inPlace := ["slices.overlaps[loop.example/g00982/impl.Id]", "slices.overlaps[int]"], unfollowed := true, recurses := true, apart := false }
def FnTransferredSaid : Prop := fnTransferredRow.holds Try.pinned (OpenSpec.ofChange fnTransferredSpec)

/-- ITS FALSE NEIGHBOUR: 'it returns false'. Refute it at one input. -/
def fnTransferredWrong : ChangeSpec := { name := "fnTransferred", fn := fun _ => fun
  | [d] => { results := [.lit (.bool false)], args := [d] }
  | _ => none }
def FnTransferredWrongFalsely : Prop := fnTransferredRow.holds Try.pinned (OpenSpec.ofChange fnTransferredWrong)

/-- 'laws.FnExactCoarsenState': WHATEVER THE INPUT: true; the input reads as it did. -/
def fnExactCoarsenStateSpec : ChangeSpec := { name := "fnExactCoarsenState", fn := fun _ => fun
  | [d1, d2] => { results := [.lit (.bool true)], args := [d1, d2] }
  | _ => none }
def fnExactCoarsenStateRow : OpenClaim := { program := "ytbkkehjhfgocfaa", sum := "86094cbf041f02065cf97c3275ed2710fcac6832c45829001cf01ee0f54655ff", func := "loop.example/g00982/laws.FnExactCoarsenState", spec := "fnExactCoarsenState", inPlace := ["slices.overlaps[loop.example/g00982/impl.Id]", "slices.overlaps[int]"], unfollowed := true, recurses := true, apart := false }
def FnExactCoarsenStateSaid : Prop := fnExactCoarsenStateRow.holds Try.pinned (OpenSpec.ofChange fnExactCoarsenStateSpec)

/-- ITS FALSE NEIGHBOUR: 'it returns false'. Refute it at one input. -/
def fnExactCoarsenStateWrong : ChangeSpec := { name := "fnExactCoarsenState", fn := fun _ => fun
  | [d1, d2] => { results := [.lit (.bool false)], args := [d1, d2] }
  | _ => none }
def FnExactCoarsenStateWrongFalsely : Prop := fnExactCoarsenStateRow.holds Try.pinned (OpenSpec.ofChange fnExactCoarsenStateWrong)

/-- 'laws.FnExactRefineState': WHATEVER THE INPUT: true; the input reads as it did. -/
def fnExactRefineStateSpec : ChangeSpec := { name := "fnExactRefineState", fn := fun _ => fun
  | [d1, d2] => { results := [.lit (.bool true)], args := [d1, d2] }
  | _ => none }
def fnExactRefineStateRow : OpenClaim := { program := "ytbkkehjhfgocfaa", sum := "86094cbf041f02065cf97c3275ed2710fcac6832c45829001cf01ee0f54655ff", func := "loop.example/g00982/laws.FnExactRefineState", spec := "fnExactRefineState", inPlace := ["slices.overlaps[loop.example/g00982/impl.Id]", "slices.overlaps[int]"], unfollowed := true, recurses := true, apart := false }
def FnExactRefineStateSaid : Prop := fnExactRefineStateRow.holds Try.pinned (OpenSpec.ofChange fnExactRefineStateSpec)

/-- ITS FALSE NEIGHBOUR: 'it returns false'. Refute it at one input. -/
def fnExactRefineStateWrong : ChangeSpec := { name := "fnExactRefineState", fn := fun _ => fun
  | [d1, d2] => { results := [.lit (.bool false)], args := [d1, d2] }
  | _ => none }
def FnExactRefineStateWrongFalsely : Prop := fnExactRefineStateRow.holds Try.pinned (OpenSpec.ofChange fnExactRefineStateWrong)

/-- 'laws.FnFilled': WHATEVER THE INPUT: true; the input reads as it did. -/
def fnFilledSpec : ChangeSpec := { name := "fnFilled", fn := fun _ => fun
  | [d] => { results := [.lit (.bool true)], args := [d] }
  | _ => none }
def fnFilledRow : OpenClaim := { program := "ytbkkehjhfgocfaa", sum := "86094cbf041f02065cf97c3275ed2710fcac6832c45829001cf01ee0f54655ff", func := "loop.example/g00982/laws.FnFilled", spec := "fnFilled", unfollowed := true, recurses := true, apart := false }
def FnFilledSaid : Prop := fnFilledRow.holds Try.pinned (OpenSpec.ofChange fnFilledSpec)

/-- ITS FALSE NEIGHBOUR: 'it returns false'. Refute it at one input. -/
def fnFilledWrong : ChangeSpec := { name := "fnFilled", fn := fun _ => fun
  | [d] => { results := [.lit (.bool false)], args := [d] }
  | _ => none }
def FnFilledWrongFalsely : Prop := fnFilledRow.holds Try.pinned (OpenSpec.ofChange fnFilledWrong)

/-- 'laws.FnPut': WHATEVER THE INPUT: true; the input reads as it did. -/
def fnPutSpec : ChangeSpec := { name := "fnPut", fn := fun _ => fun
  | [d] => { results := [.lit (.bool true)], args := [d] }
  | _ => none }
def fnPutRow : OpenClaim := { program := "ytbkkehjhfgocfaa", sum := "86094cbf041f02065cf97c3275ed2710fcac6832c45829001cf01ee0f54655ff", func := "loop.example/g00982/laws.FnPut", spec := "fnPut", unfollowed := true, recurses := true, apart := false }
def FnPutSaid : Prop := fnPutRow.holds Try.pinned (OpenSpec.ofChange fnPutSpec)

/-- ITS FALSE NEIGHBOUR: 'it returns false'. Refute it at one input. -/
def fnPutWrong : ChangeSpec := { name := "fnPut", fn := fun _ => fun
  | [d] => { results := [.lit (.bool false)], args := [d] }
  | _ => none }
def FnPutWrongFalsely : Prop := fnPutRow.holds Try.pinned (OpenSpec.ofChange fnPutWrong)

/-- 'laws.FnExactStateOk': WHATEVER THE INPUT: true; the input reads as it did. -/
def fnExactStateOkSpec : ChangeSpec := { name := "fnExactStateOk", fn := fun _ => fun
  | [d] => { results := [.lit (.bool true)], args := [d] }
  | _ => none }
def fnExactStateOkRow : OpenClaim := { program := "ytbkkehjhfgocfaa", sum := "86094cbf041f02065cf97c3275ed2710fcac6832c45829001cf01ee0f54655ff", func := "loop.example/g00982/laws.FnExactStateOk", spec := "fnExactStateOk", unfollowed := true, recurses := true, apart := false }
def FnExactStateOkSaid : Prop := fnExactStateOkRow.holds Try.pinned (OpenSpec.ofChange fnExactStateOkSpec)

/-- ITS FALSE NEIGHBOUR: 'it returns false'. Refute it at one input. -/
def fnExactStateOkWrong : ChangeSpec := { name := "fnExactStateOk", fn := fun _ => fun
  | [d] => { results := [.lit (.bool false)], args := [d] }
  | _ => none }
def FnExactStateOkWrongFalsely : Prop := fnExactStateOkRow.holds Try.pinned (OpenSpec.ofChange fnExactStateOkWrong)

/-- 'laws.FnExactTotalMass': WHATEVER THE INPUT: true; the input reads as it did. -/
def fnExactTotalMassSpec : ChangeSpec := { name := "fnExactTotalMass", fn := fun _ => fun
  | [d] => { results := [.lit (.bool true)], args := [d] }
  | _ => none }
def fnExactTotalMassRow : OpenClaim := { program := "ytbkkehjhfgocfaa", sum := "86094cbf041f02065cf97c3275ed2710fcac6832c45829001cf01ee0f54655ff", func := "loop.example/g00982/laws.FnExactTotalMass", spec := "fnExactTotalMass", unfollowed := true, recurses := true, apart := false }
def FnExactTotalMassSaid : Prop := fnExactTotalMassRow.holds Try.pinned (OpenSpec.ofChange fnExactTotalMassSpec)

/-- ITS FALSE NEIGHBOUR: 'it returns false'. Refute it at one input. -/
def fnExactTotalMassWrong : ChangeSpec := { name := "fnExactTotalMass", fn := fun _ => fun
  | [d] => { results := [.lit (.bool false)], args := [d] }
  | _ => none }
def FnExactTotalMassWrongFalsely : Prop := fnExactTotalMassRow.holds Try.pinned (OpenSpec.ofChange fnExactTotalMassWrong)

/-- 'laws.FnExactTotalTracer': WHATEVER THE INPUT: true; the input reads as it did. -/
def fnExactTotalTracerSpec : ChangeSpec := { name := "fnExactTotalTracer", fn := fun _ => fun
  | [d] => { results := [.lit (.bool true)], args := [d] }
  | _ => none }
def fnExactTotalTracerRow : OpenClaim := { program := "ytbkkehjhfgocfaa", sum := "86094cbf041f02065cf97c3275ed2710fcac6832c45829001cf01ee0f54655ff", func := "loop.example/g00982/laws.FnExactTotalTracer", spec := "fnExactTotalTracer", unfollowed := true, recurses := true, apart := false }
def FnExactTotalTracerSaid : Prop := fnExactTotalTracerRow.holds Try.pinned (OpenSpec.ofChange fnExactTotalTracerSpec)

/-- ITS FALSE NEIGHBOUR: 'it returns false'. Refute it at one input. -/
def fnExactTotalTracerWrong : ChangeSpec := { name := "fnExactTotalTracer", fn := fun _ => fun
  | [d] => { results := [.lit (.bool false)], args := [d] }
  | _ => none }
def FnExactTotalTracerWrongFalsely : Prop := fnExactTotalTracerRow.holds Try.pinned (OpenSpec.ofChange fnExactTotalTracerWrong)

/-- 'laws.FnExactFillState': WHATEVER THE INPUT: true; the input reads as it did. -/
def fnExactFillStateSpec : ChangeSpec := { name := "fnExactFillState", fn := fun _ => fun
  | [d1, d2, d3] => { results := [.lit (.bool true)], args := [d1, d2, d3] }
  | _ => none }
def fnExactFillStateRow : OpenClaim := { program := "ytbkkehjhfgocfaa", sum := "86094cbf041f02065cf97c3275ed2710fcac6832c45829001cf01ee0f54655ff", func := "loop.example/g00982/laws.FnExactFillState", spec := "fnExactFillState", unfollowed := true, recurses := true, apart := false }
def FnExactFillStateSaid : Prop := fnExactFillStateRow.holds Try.pinned (OpenSpec.ofChange fnExactFillStateSpec)

/-- ITS FALSE NEIGHBOUR: 'it returns false'. Refute it at one input. -/
def fnExactFillStateWrong : ChangeSpec := { name := "fnExactFillState", fn := fun _ => fun
  | [d1, d2, d3] => { results := [.lit (.bool false)], args := [d1, d2, d3] }
  | _ => none }
def FnExactFillStateWrongFalsely : Prop := fnExactFillStateRow.holds Try.pinned (OpenSpec.ofChange fnExactFillStateWrong)

/-- 'laws.FnExactPutCell': WHATEVER THE INPUT: true; the input reads as it did. -/
def fnExactPutCellSpec : ChangeSpec := { name := "fnExactPutCell", fn := fun _ => fun
  | [d1, d2, d3, d4] => { results := [.lit (.bool true)], args := [d1, d2, d3, d4] }
  | _ => none }
def fnExactPutCellRow : OpenClaim := { program := "ytbkkehjhfgocfaa", sum := "86094cbf041f02065cf97c3275ed2710fcac6832c45829001cf01ee0f54655ff", func := "loop.example/g00982/laws.FnExactPutCell", spec := "fnExactPutCell", unfollowed := true, recurses := true, apart := false }
def FnExactPutCellSaid : Prop := fnExactPutCellRow.holds Try.pinned (OpenSpec.ofChange fnExactPutCellSpec)

/-- ITS FALSE NEIGHBOUR: 'it returns false'. Refute it at one input. -/
def fnExactPutCellWrong : ChangeSpec := { name := "fnExactPutCell", fn := fun _ => fun
  | [d1, d2, d3, d4] => { results := [.lit (.bool false)], args := [d1, d2, d3, d4] }
  | _ => none }
def FnExactPutCellWrongFalsely : Prop := fnExactPutCellRow.holds Try.pinned (OpenSpec.ofChange fnExactPutCellWrong)

/- THE SECOND FORM. 'bulk': how many values and letters a reading holds, each counted each time it is reached (what is shared counts as often as it is met; a slice's spare places count too). A statement '..UptoSaid' is the law's where the arguments, and the package variables that the reading takes, are together of bulk at most 1048576: NARROWER than '..Said'. Prove '..Said' where nothing that the law and all that it calls make is longer than what came in: it says more and counts as full. Else prove '..UptoSaid'. A law counts once. -/
mutual
def uptoBulk {H : Type} : DataW H → Nat
  | .lit (.string bytes) => bytes.length + 1
  | .lit _ => 1
  | .nil => 1
  | .ptr d => uptoBulk d + 1
  | .slice elems spare => uptoBulkAll elems + uptoBulkAll spare + 1
  | .agg parts => uptoBulkAll parts + 1
  | .iface _ d => uptoBulk d + 1
  | .map entries => uptoBulkEntries entries + 1
  | .held _ => 1
def uptoBulkAll {H : Type} : List (DataW H) → Nat
  | [] => 0
  | d :: r => uptoBulk d + uptoBulkAll r
def uptoBulkEntries {H : Type} : List (Lit × DataW H) → Nat
  | [] => 0
  | x :: r => uptoBulkEntry x + uptoBulkEntries r
def uptoBulkEntry {H : Type} : Lit × DataW H → Nat
  | (.string bytes, d) => bytes.length + uptoBulk d + 1
  | (_, d) => uptoBulk d + 1
 end
def uptoSmall : (H : Type) → List (DataW H) → Bool := fun _ ds => decide (uptoBulkAll ds ≤ 1048576)
def OpenSpec.upto (s : _root_.Go.ChangeSpec) : _root_.Go.OpenSpec := { _root_.Go.OpenSpec.ofChange s with cond := some uptoSmall }

/-- 'laws.FnTransferred', WHERE WHAT IT READS IS OF BULK AT MOST 1048576: true; the input reads as it did. -/
def fnTransferredUptoRow : OpenClaim := { program := "ytbkkehjhfgocfaa", sum := "86094cbf041f02065cf97c3275ed2710fcac6832c45829001cf01ee0f54655ff", func := "loop.example/g00982/laws.FnTransferred", spec := "fnTransferred", inPlace := ["slices.overlaps[loop.example/g00982/impl.Id]", "slices.overlaps[int]"], unfollowed := true, recurses := true, apart := false, narrowed := true }
def FnTransferredUptoSaid : Prop := fnTransferredUptoRow.holds Try.pinned (OpenSpec.upto fnTransferredSpec)

/-- 'laws.FnExactCoarsenState', WHERE WHAT IT READS IS OF BULK AT MOST 1048576: true; the input reads as it did. -/
def fnExactCoarsenStateUptoRow : OpenClaim := { program := "ytbkkehjhfgocfaa", sum := "86094cbf041f02065cf97c3275ed2710fcac6832c45829001cf01ee0f54655ff", func := "loop.example/g00982/laws.FnExactCoarsenState", spec := "fnExactCoarsenState", inPlace := ["slices.overlaps[loop.example/g00982/impl.Id]", "slices.overlaps[int]"], unfollowed := true, recurses := true, apart := false, narrowed := true }
def FnExactCoarsenStateUptoSaid : Prop := fnExactCoarsenStateUptoRow.holds Try.pinned (OpenSpec.upto fnExactCoarsenStateSpec)

/-- 'laws.FnExactRefineState', WHERE WHAT IT READS IS OF BULK AT MOST 1048576: true; the input reads as it did. -/
def fnExactRefineStateUptoRow : OpenClaim := { program := "ytbkkehjhfgocfaa", sum := "86094cbf041f02065cf97c3275ed2710fcac6832c45829001cf01ee0f54655ff", func := "loop.example/g00982/laws.FnExactRefineState", spec := "fnExactRefineState", inPlace := ["slices.overlaps[loop.example/g00982/impl.Id]", "slices.overlaps[int]"], unfollowed := true, recurses := true, apart := false, narrowed := true }
def FnExactRefineStateUptoSaid : Prop := fnExactRefineStateUptoRow.holds Try.pinned (OpenSpec.upto fnExactRefineStateSpec)

/-- 'laws.FnFilled', WHERE WHAT IT READS IS OF BULK AT MOST 1048576: true; the input reads as it did. -/
def fnFilledUptoRow : OpenClaim := { program := "ytbkkehjhfgocfaa", sum := "86094cbf041f02065cf97c3275ed2710fcac6832c45829001cf01ee0f54655ff", func := "loop.example/g00982/laws.FnFilled", spec := "fnFilled", unfollowed := true, recurses := true, apart := false, narrowed := true }
def FnFilledUptoSaid : Prop := fnFilledUptoRow.holds Try.pinned (OpenSpec.upto fnFilledSpec)

/-- 'laws.FnPut', WHERE WHAT IT READS IS OF BULK AT MOST 1048576: true; the input reads as it did. -/
def fnPutUptoRow : OpenClaim := { program := "ytbkkehjhfgocfaa", sum := "86094cbf041f02065cf97c3275ed2710fcac6832c45829001cf01ee0f54655ff", func := "loop.example/g00982/laws.FnPut", spec := "fnPut", unfollowed := true, recurses := true, apart := false, narrowed := true }
def FnPutUptoSaid : Prop := fnPutUptoRow.holds Try.pinned (OpenSpec.upto fnPutSpec)

/-- 'laws.FnExactStateOk', WHERE WHAT IT READS IS OF BULK AT MOST 1048576: true; the input reads as it did. -/
def fnExactStateOkUptoRow : OpenClaim := { program := "ytbkkehjhfgocfaa", sum := "86094cbf041f02065cf97c3275ed2710fcac6832c45829001cf01ee0f54655ff", func := "loop.example/g00982/laws.FnExactStateOk", spec := "fnExactStateOk", unfollowed := true, recurses := true, apart := false, narrowed := true }
def FnExactStateOkUptoSaid : Prop := fnExactStateOkUptoRow.holds Try.pinned (OpenSpec.upto fnExactStateOkSpec)

/-- 'laws.FnExactTotalMass', WHERE WHAT IT READS IS OF BULK AT MOST 1048576: true; the input reads as it did. -/
def fnExactTotalMassUptoRow : OpenClaim := { program := "ytbkkehjhfgocfaa", sum := "86094cbf041f02065cf97c3275ed2710fcac6832c45829001cf01ee0f54655ff", func := "loop.example/g00982/laws.FnExactTotalMass", spec := "fnExactTotalMass", unfollowed := true, recurses := true, apart := false, narrowed := true }
def FnExactTotalMassUptoSaid : Prop := fnExactTotalMassUptoRow.holds Try.pinned (OpenSpec.upto fnExactTotalMassSpec)

/-- 'laws.FnExactTotalTracer', WHERE WHAT IT READS IS OF BULK AT MOST 1048576: true; the input reads as it did. -/
def fnExactTotalTracerUptoRow : OpenClaim := { program := "ytbkkehjhfgocfaa", sum := "86094cbf041f02065cf97c3275ed2710fcac6832c45829001cf01ee0f54655ff", func := "loop.example/g00982/laws.FnExactTotalTracer", spec := "fnExactTotalTracer", unfollowed := true, recurses := true, apart := false, narrowed := true }
def FnExactTotalTracerUptoSaid : Prop := fnExactTotalTracerUptoRow.holds Try.pinned (OpenSpec.upto fnExactTotalTracerSpec)

/-- 'laws.FnExactFillState', WHERE WHAT IT READS IS OF BULK AT MOST 1048576: true; the input reads as it did. -/
def fnExactFillStateUptoRow : OpenClaim := { program := "ytbkkehjhfgocfaa", sum := "86094cbf041f02065cf97c3275ed2710fcac6832c45829001cf01ee0f54655ff", func := "loop.example/g00982/laws.FnExactFillState", spec := "fnExactFillState", unfollowed := true, recurses := true, apart := false, narrowed := true }
def FnExactFillStateUptoSaid : Prop := fnExactFillStateUptoRow.holds Try.pinned (OpenSpec.upto fnExactFillStateSpec)

/-- 'laws.FnExactPutCell', WHERE WHAT IT READS IS OF BULK AT MOST 1048576: true; the input reads as it did. -/
def fnExactPutCellUptoRow : OpenClaim := { program := "ytbkkehjhfgocfaa", sum := "86094cbf041f02065cf97c3275ed2710fcac6832c45829001cf01ee0f54655ff", func := "loop.example/g00982/laws.FnExactPutCell", spec := "fnExactPutCell", unfollowed := true, recurses := true, apart := false, narrowed := true }
def FnExactPutCellUptoSaid : Prop := fnExactPutCellUptoRow.holds Try.pinned (OpenSpec.upto fnExactPutCellSpec)

end Rows
end Go.Proofs.Ytbkkehjhfgocfaa
