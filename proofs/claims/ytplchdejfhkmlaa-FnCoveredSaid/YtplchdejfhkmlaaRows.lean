/-
  No cell of these rows narrows 'for every input' (looked for: loops, veiled, ifaces, maps, wideKeys, modest, calm, conditions, laid).
  DERIVED. THE GIVEN ROWS OF THIS SEAT. 12 by the template 'for every input the law returns true; each argument reads behind the call as it read before'; 0 by the template 'total and deterministic' (their statements: YtplchdejfhkmlaaTotals.lean).
  GIVEN WITH THE SEED: the statements are not yours to turn. If you find one false, say at which input.
  Laid BY PROGRAM, IN A SANDBOX (cutbox-rows.mjs): the forced cells as the released guide's own fill.sh prints them over the translation 3e41ed0be2c00323… (all of the seat's roots in one cut). By AI agents, Wed Nov 11 2026. No macro, syntax, notation, axiom, sorry.
-/
import Derived.Test.YtplchdejfhkmlaaChecked
import GoSem.Claim
import GoSem.ClaimJoined
import GoSem.ClaimMapViews
import Derived.JoinedTies
import Derived.KernelRfl
namespace Go.Proofs.Ytplchdejfhkmlaa
/- THE CELL 'sum', in the pinned program and in every row, IS THE sha256 OF THE DUMP (.gsa) THAT YtplchdejfhkmlaaProg.lean LOADS. Nothing in Lean hashes anything: it is a label: what it is worth is what the hold of that sum in a sandbox is worth. -/
noncomputable def Try.pinned : Pinned := { name := "ytplchdejfhkmlaa", sum := "3e41ed0be2c00323c8ea9f2ce91d0936f3a572ae611bfccebb7f1dafe6e51cbd", checked := Try.checked }
namespace Rows
def none {H : Type} : Left H := { results := [], args := [] }

/-- 'laws.FnContained': WHATEVER THE INPUT: true; the input reads as it did. -/
def fnContainedSpec : ChangeSpec := { name := "fnContained", fn := fun _ => fun
  | [d] => { results := [.lit (.bool true)], args := [d] }
  | _ => none }
def fnContainedRow : OpenClaim := { program := "ytplchdejfhkmlaa", sum := "3e41ed0be2c00323c8ea9f2ce91d0936f3a572ae611bfccebb7f1dafe6e51cbd", func := "loop.example/g00982/laws.FnContained", spec := "fnContained", apart := false }
def FnContainedSaid : Prop := fnContainedRow.holds Try.pinned (OpenSpec.ofChange fnContainedSpec)

/-- ITS FALSE NEIGHBOUR: 'it returns false'. Refute it at one input. -/
def fnContainedWrong : ChangeSpec := { name := "fnContained", fn := fun _ => fun
  | [d] => { results := [.lit (.bool false)], args := [d] }
  | _ => none }
def FnContainedWrongFalsely : Prop := fnContainedRow.holds Try.pinned (OpenSpec.ofChange fnContainedWrong)

/-- 'laws.FnExactMeshNew': WHATEVER THE INPUT: true; the input reads as it did. -/
def fnExactMeshNewSpec : ChangeSpec := { name := "fnExactMeshNew", fn := fun _ => fun
  | [d1, d2] => { results := [.lit (.bool true)], args := [d1, d2] }
  | _ => none }
def fnExactMeshNewRow : OpenClaim := { program := "ytplchdejfhkmlaa", sum := "3e41ed0be2c00323c8ea9f2ce91d0936f3a572ae611bfccebb7f1dafe6e51cbd", func := "loop.example/g00982/laws.FnExactMeshNew", spec := "fnExactMeshNew", apart := false }
def FnExactMeshNewSaid : Prop := fnExactMeshNewRow.holds Try.pinned (OpenSpec.ofChange fnExactMeshNewSpec)

/-- ITS FALSE NEIGHBOUR: 'it returns false'. Refute it at one input. -/
def fnExactMeshNewWrong : ChangeSpec := { name := "fnExactMeshNew", fn := fun _ => fun
  | [d1, d2] => { results := [.lit (.bool false)], args := [d1, d2] }
  | _ => none }
def FnExactMeshNewWrongFalsely : Prop := fnExactMeshNewRow.holds Try.pinned (OpenSpec.ofChange fnExactMeshNewWrong)

/-- 'laws.FnFaces': WHATEVER THE INPUT: true; the input reads as it did. -/
def fnFacesSpec : ChangeSpec := { name := "fnFaces", fn := fun _ => fun
  | [d] => { results := [.lit (.bool true)], args := [d] }
  | _ => none }
def fnFacesRow : OpenClaim := { program := "ytplchdejfhkmlaa", sum := "3e41ed0be2c00323c8ea9f2ce91d0936f3a572ae611bfccebb7f1dafe6e51cbd", func := "loop.example/g00982/laws.FnFaces", spec := "fnFaces", recurses := true, apart := false }
def FnFacesSaid : Prop := fnFacesRow.holds Try.pinned (OpenSpec.ofChange fnFacesSpec)

/-- ITS FALSE NEIGHBOUR: 'it returns false'. Refute it at one input. -/
def fnFacesWrong : ChangeSpec := { name := "fnFaces", fn := fun _ => fun
  | [d] => { results := [.lit (.bool false)], args := [d] }
  | _ => none }
def FnFacesWrongFalsely : Prop := fnFacesRow.holds Try.pinned (OpenSpec.ofChange fnFacesWrong)

/-- 'laws.FnExactMeshOk': WHATEVER THE INPUT: true; the input reads as it did. -/
def fnExactMeshOkSpec : ChangeSpec := { name := "fnExactMeshOk", fn := fun _ => fun
  | [d] => { results := [.lit (.bool true)], args := [d] }
  | _ => none }
def fnExactMeshOkRow : OpenClaim := { program := "ytplchdejfhkmlaa", sum := "3e41ed0be2c00323c8ea9f2ce91d0936f3a572ae611bfccebb7f1dafe6e51cbd", func := "loop.example/g00982/laws.FnExactMeshOk", spec := "fnExactMeshOk", apart := false }
def FnExactMeshOkSaid : Prop := fnExactMeshOkRow.holds Try.pinned (OpenSpec.ofChange fnExactMeshOkSpec)

/-- ITS FALSE NEIGHBOUR: 'it returns false'. Refute it at one input. -/
def fnExactMeshOkWrong : ChangeSpec := { name := "fnExactMeshOk", fn := fun _ => fun
  | [d] => { results := [.lit (.bool false)], args := [d] }
  | _ => none }
def FnExactMeshOkWrongFalsely : Prop := fnExactMeshOkRow.holds Try.pinned (OpenSpec.ofChange fnExactMeshOkWrong)

/-- 'laws.FnCovered': WHATEVER THE INPUT: true; the input reads as it did. -/
def fnCoveredSpec : ChangeSpec := { name := "fnCovered", fn := fun _ => fun
  | [d] => { results := [.lit (.bool true)], args := [d] }
  | _ => none }
def fnCoveredRow : OpenClaim := { program := "ytplchdejfhkmlaa", sum := "3e41ed0be2c00323c8ea9f2ce91d0936f3a572ae611bfccebb7f1dafe6e51cbd", func := "loop.example/g00982/laws.FnCovered", spec := "fnCovered", unfollowed := true, recurses := true, apart := false }
def FnCoveredSaid : Prop := fnCoveredRow.holds Try.pinned (OpenSpec.ofChange fnCoveredSpec)

/-- ITS FALSE NEIGHBOUR: 'it returns false'. Refute it at one input. -/
def fnCoveredWrong : ChangeSpec := { name := "fnCovered", fn := fun _ => fun
  | [d] => { results := [.lit (.bool false)], args := [d] }
  | _ => none }
def FnCoveredWrongFalsely : Prop := fnCoveredRow.holds Try.pinned (OpenSpec.ofChange fnCoveredWrong)

/-- 'laws.FnExactMayRefine': WHATEVER THE INPUT: true; the input reads as it did. -/
def fnExactMayRefineSpec : ChangeSpec := { name := "fnExactMayRefine", fn := fun _ => fun
  | [d1, d2] => { results := [.lit (.bool true)], args := [d1, d2] }
  | _ => none }
def fnExactMayRefineRow : OpenClaim := { program := "ytplchdejfhkmlaa", sum := "3e41ed0be2c00323c8ea9f2ce91d0936f3a572ae611bfccebb7f1dafe6e51cbd", func := "loop.example/g00982/laws.FnExactMayRefine", spec := "fnExactMayRefine", apart := false }
def FnExactMayRefineSaid : Prop := fnExactMayRefineRow.holds Try.pinned (OpenSpec.ofChange fnExactMayRefineSpec)

/-- ITS FALSE NEIGHBOUR: 'it returns false'. Refute it at one input. -/
def fnExactMayRefineWrong : ChangeSpec := { name := "fnExactMayRefine", fn := fun _ => fun
  | [d1, d2] => { results := [.lit (.bool false)], args := [d1, d2] }
  | _ => none }
def FnExactMayRefineWrongFalsely : Prop := fnExactMayRefineRow.holds Try.pinned (OpenSpec.ofChange fnExactMayRefineWrong)

/-- 'laws.FnExactFaceLevel': WHATEVER THE INPUT: true; the input reads as it did. -/
def fnExactFaceLevelSpec : ChangeSpec := { name := "fnExactFaceLevel", fn := fun _ => fun
  | [d1, d2] => { results := [.lit (.bool true)], args := [d1, d2] }
  | _ => none }
def fnExactFaceLevelRow : OpenClaim := { program := "ytplchdejfhkmlaa", sum := "3e41ed0be2c00323c8ea9f2ce91d0936f3a572ae611bfccebb7f1dafe6e51cbd", func := "loop.example/g00982/laws.FnExactFaceLevel", spec := "fnExactFaceLevel", apart := false }
def FnExactFaceLevelSaid : Prop := fnExactFaceLevelRow.holds Try.pinned (OpenSpec.ofChange fnExactFaceLevelSpec)

/-- ITS FALSE NEIGHBOUR: 'it returns false'. Refute it at one input. -/
def fnExactFaceLevelWrong : ChangeSpec := { name := "fnExactFaceLevel", fn := fun _ => fun
  | [d1, d2] => { results := [.lit (.bool false)], args := [d1, d2] }
  | _ => none }
def FnExactFaceLevelWrongFalsely : Prop := fnExactFaceLevelRow.holds Try.pinned (OpenSpec.ofChange fnExactFaceLevelWrong)

/-- 'laws.FnExactDeepestLevel': WHATEVER THE INPUT: true; the input reads as it did. -/
def fnExactDeepestLevelSpec : ChangeSpec := { name := "fnExactDeepestLevel", fn := fun _ => fun
  | [d] => { results := [.lit (.bool true)], args := [d] }
  | _ => none }
def fnExactDeepestLevelRow : OpenClaim := { program := "ytplchdejfhkmlaa", sum := "3e41ed0be2c00323c8ea9f2ce91d0936f3a572ae611bfccebb7f1dafe6e51cbd", func := "loop.example/g00982/laws.FnExactDeepestLevel", spec := "fnExactDeepestLevel", apart := false }
def FnExactDeepestLevelSaid : Prop := fnExactDeepestLevelRow.holds Try.pinned (OpenSpec.ofChange fnExactDeepestLevelSpec)

/-- ITS FALSE NEIGHBOUR: 'it returns false'. Refute it at one input. -/
def fnExactDeepestLevelWrong : ChangeSpec := { name := "fnExactDeepestLevel", fn := fun _ => fun
  | [d] => { results := [.lit (.bool false)], args := [d] }
  | _ => none }
def FnExactDeepestLevelWrongFalsely : Prop := fnExactDeepestLevelRow.holds Try.pinned (OpenSpec.ofChange fnExactDeepestLevelWrong)

/-- 'laws.FnExactIsBalanced': WHATEVER THE INPUT: true; the input reads as it did. -/
def fnExactIsBalancedSpec : ChangeSpec := { name := "fnExactIsBalanced", fn := fun _ => fun
  | [d] => { results := [.lit (.bool true)], args := [d] }
  | _ => none }
def fnExactIsBalancedRow : OpenClaim := { program := "ytplchdejfhkmlaa", sum := "3e41ed0be2c00323c8ea9f2ce91d0936f3a572ae611bfccebb7f1dafe6e51cbd", func := "loop.example/g00982/laws.FnExactIsBalanced", spec := "fnExactIsBalanced", apart := false }
def FnExactIsBalancedSaid : Prop := fnExactIsBalancedRow.holds Try.pinned (OpenSpec.ofChange fnExactIsBalancedSpec)

/-- ITS FALSE NEIGHBOUR: 'it returns false'. Refute it at one input. -/
def fnExactIsBalancedWrong : ChangeSpec := { name := "fnExactIsBalanced", fn := fun _ => fun
  | [d] => { results := [.lit (.bool false)], args := [d] }
  | _ => none }
def FnExactIsBalancedWrongFalsely : Prop := fnExactIsBalancedRow.holds Try.pinned (OpenSpec.ofChange fnExactIsBalancedWrong)

/-- 'laws.FnExactLeafAt': WHATEVER THE INPUT: true; the input reads as it did. -/
def fnExactLeafAtSpec : ChangeSpec := { name := "fnExactLeafAt", fn := fun _ => fun
  | [d1, d2] => { results := [.lit (.bool true)], args := [d1, d2] }
  | _ => none }
def fnExactLeafAtRow : OpenClaim := { program := "ytplchdejfhkmlaa", sum := "3e41ed0be2c00323c8ea9f2ce91d0936f3a572ae611bfccebb7f1dafe6e51cbd", func := "loop.example/g00982/laws.FnExactLeafAt", spec := "fnExactLeafAt", unfollowed := true, recurses := true, apart := false }
def FnExactLeafAtSaid : Prop := fnExactLeafAtRow.holds Try.pinned (OpenSpec.ofChange fnExactLeafAtSpec)

/-- ITS FALSE NEIGHBOUR: 'it returns false'. Refute it at one input. -/
def fnExactLeafAtWrong : ChangeSpec := { name := "fnExactLeafAt", fn := fun _ => fun
  | [d1, d2] => { results := [.lit (.bool false)], args := [d1, d2] }
  | _ => none }
def FnExactLeafAtWrongFalsely : Prop := fnExactLeafAtRow.holds Try.pinned (OpenSpec.ofChange fnExactLeafAtWrong)

/-- 'laws.FnExactCountFaces': WHATEVER THE INPUT: true; the input reads as it did. -/
def fnExactCountFacesSpec : ChangeSpec := { name := "fnExactCountFaces", fn := fun _ => fun
  | [d1, d2] => { results := [.lit (.bool true)], args := [d1, d2] }
  | _ => none }
def fnExactCountFacesRow : OpenClaim := { program := "ytplchdejfhkmlaa", sum := "3e41ed0be2c00323c8ea9f2ce91d0936f3a572ae611bfccebb7f1dafe6e51cbd", func := "loop.example/g00982/laws.FnExactCountFaces", spec := "fnExactCountFaces", apart := false }
def FnExactCountFacesSaid : Prop := fnExactCountFacesRow.holds Try.pinned (OpenSpec.ofChange fnExactCountFacesSpec)

/-- ITS FALSE NEIGHBOUR: 'it returns false'. Refute it at one input. -/
def fnExactCountFacesWrong : ChangeSpec := { name := "fnExactCountFaces", fn := fun _ => fun
  | [d1, d2] => { results := [.lit (.bool false)], args := [d1, d2] }
  | _ => none }
def FnExactCountFacesWrongFalsely : Prop := fnExactCountFacesRow.holds Try.pinned (OpenSpec.ofChange fnExactCountFacesWrong)

/-- 'laws.FnExactFirstUnbalanced': WHATEVER THE INPUT: true; the input reads as it did. -/
def fnExactFirstUnbalancedSpec : ChangeSpec := { name := "fnExactFirstUnbalanced", fn := fun _ => fun
  | [d] => { results := [.lit (.bool true)], args := [d] }
  | _ => none }
def fnExactFirstUnbalancedRow : OpenClaim := { program := "ytplchdejfhkmlaa", sum := "3e41ed0be2c00323c8ea9f2ce91d0936f3a572ae611bfccebb7f1dafe6e51cbd", func := "loop.example/g00982/laws.FnExactFirstUnbalanced", spec := "fnExactFirstUnbalanced", apart := false }
def FnExactFirstUnbalancedSaid : Prop := fnExactFirstUnbalancedRow.holds Try.pinned (OpenSpec.ofChange fnExactFirstUnbalancedSpec)

/-- ITS FALSE NEIGHBOUR: 'it returns false'. Refute it at one input. -/
def fnExactFirstUnbalancedWrong : ChangeSpec := { name := "fnExactFirstUnbalanced", fn := fun _ => fun
  | [d] => { results := [.lit (.bool false)], args := [d] }
  | _ => none }
def FnExactFirstUnbalancedWrongFalsely : Prop := fnExactFirstUnbalancedRow.holds Try.pinned (OpenSpec.ofChange fnExactFirstUnbalancedWrong)

/- THE SECOND FORM. 'bulk': how many values and letters a reading holds, each counted each time it is reached (what is shared counts as often as it is met; a slice's spare places count too). A statement '..UptoSaid' is the law's where the arguments, and the package variables that the reading takes, are together of bulk at most 1048576: NARROWER than '..Said'. Prove '..Said' where nothing that the law and all that it calls make is longer than what came in: it says more and counts as full. Else prove '..UptoSaid'. A law counts once. -/
mutual
def uptoBulk {H : Type} : DataW H → Nat
  | .lit (.string bytes) => bytes.length + 1
  | .lit _ => 1
  | .nil => 1
  | .ptr d => uptoBulk d + 1
  | .slice elems spare => uptoBulkAll elems + uptoBulkAll spare + 1
  | .agg parts => uptoBulkAll parts + 1
  | .iface _ d => uptoBulk d + 1
  | .map entries => uptoBulkEntries entries + 1
  | .held _ => 1
def uptoBulkAll {H : Type} : List (DataW H) → Nat
  | [] => 0
  | d :: r => uptoBulk d + uptoBulkAll r
def uptoBulkEntries {H : Type} : List (Lit × DataW H) → Nat
  | [] => 0
  | x :: r => uptoBulkEntry x + uptoBulkEntries r
def uptoBulkEntry {H : Type} : Lit × DataW H → Nat
  | (.string bytes, d) => bytes.length + uptoBulk d + 1
  | (_, d) => uptoBulk d + 1
 end
def uptoSmall : (H : Type) → List (DataW H) → Bool := fun _ ds => decide (uptoBulkAll ds ≤ 1048576)
def OpenSpec.upto (s : _root_.Go.ChangeSpec) : _root_.Go.OpenSpec := { _root_.Go.OpenSpec.ofChange s with cond := some uptoSmall }

/-- 'laws.FnContained', WHERE WHAT IT READS IS OF BULK AT MOST 1048576: true; the input reads as it did. -/
def fnContainedUptoRow : OpenClaim := { program := "ytplchdejfhkmlaa", sum := "3e41ed0be2c00323c8ea9f2ce91d0936f3a572ae611bfccebb7f1dafe6e51cbd", func := "loop.example/g00982/laws.FnContained", spec := "fnContained", apart := false, narrowed := true }
def FnContainedUptoSaid : Prop := fnContainedUptoRow.holds Try.pinned (OpenSpec.upto fnContainedSpec)

/-- 'laws.FnExactMeshNew', WHERE WHAT IT READS IS OF BULK AT MOST 1048576: true; the input reads as it did. -/
def fnExactMeshNewUptoRow : OpenClaim := { program := "ytplchdejfhkmlaa", sum := "3e41ed0be2c00323c8ea9f2ce91d0936f3a572ae611bfccebb7f1dafe6e51cbd", func := "loop.example/g00982/laws.FnExactMeshNew", spec := "fnExactMeshNew", apart := false, narrowed := true }
def FnExactMeshNewUptoSaid : Prop := fnExactMeshNewUptoRow.holds Try.pinned (OpenSpec.upto fnExactMeshNewSpec)

/-- 'laws.FnFaces', WHERE WHAT IT READS IS OF BULK AT MOST 1048576: true; the input reads as it did. -/
def fnFacesUptoRow : OpenClaim := { program := "ytplchdejfhkmlaa", sum := "3e41ed0be2c00323c8ea9f2ce91d0936f3a572ae611bfccebb7f1dafe6e51cbd", func := "loop.example/g00982/laws.FnFaces", spec := "fnFaces", recurses := true, apart := false, narrowed := true }
def FnFacesUptoSaid : Prop := fnFacesUptoRow.holds Try.pinned (OpenSpec.upto fnFacesSpec)

/-- 'laws.FnExactMeshOk', WHERE WHAT IT READS IS OF BULK AT MOST 1048576: true; the input reads as it did. -/
def fnExactMeshOkUptoRow : OpenClaim := { program := "ytplchdejfhkmlaa", sum := "3e41ed0be2c00323c8ea9f2ce91d0936f3a572ae611bfccebb7f1dafe6e51cbd", func := "loop.example/g00982/laws.FnExactMeshOk", spec := "fnExactMeshOk", apart := false, narrowed := true }
def FnExactMeshOkUptoSaid : Prop := fnExactMeshOkUptoRow.holds Try.pinned (OpenSpec.upto fnExactMeshOkSpec)

/-- 'laws.FnCovered', WHERE WHAT IT READS IS OF BULK AT MOST 1048576: true; the input reads as it did. -/
def fnCoveredUptoRow : OpenClaim := { program := "ytplchdejfhkmlaa", sum := "3e41ed0be2c00323c8ea9f2ce91d0936f3a572ae611bfccebb7f1dafe6e51cbd", func := "loop.example/g00982/laws.FnCovered", spec := "fnCovered", unfollowed := true, recurses := true, apart := false, narrowed := true }
def FnCoveredUptoSaid : Prop := fnCoveredUptoRow.holds Try.pinned (OpenSpec.upto fnCoveredSpec)

/-- 'laws.FnExactMayRefine', WHERE WHAT IT READS IS OF BULK AT MOST 1048576: true; the input reads as it did. -/
def fnExactMayRefineUptoRow : OpenClaim := { program := "ytplchdejfhkmlaa", sum := "3e41ed0be2c00323c8ea9f2ce91d0936f3a572ae611bfccebb7f1dafe6e51cbd", func := "loop.example/g00982/laws.FnExactMayRefine", spec := "fnExactMayRefine", apart := false, narrowed := true }
def FnExactMayRefineUptoSaid : Prop := fnExactMayRefineUptoRow.holds Try.pinned (OpenSpec.upto fnExactMayRefineSpec)

/-- 'laws.FnExactFaceLevel', WHERE WHAT IT READS IS OF BULK AT MOST 1048576: true; the input reads as it did. -/
def fnExactFaceLevelUptoRow : OpenClaim := { program := "ytplchdejfhkmlaa", sum := "3e41ed0be2c00323c8ea9f2ce91d0936f3a572ae611bfccebb7f1dafe6e51cbd", func := "loop.example/g00982/laws.FnExactFaceLevel", spec := "fnExactFaceLevel", apart := false, narrowed := true }
def FnExactFaceLevelUptoSaid : Prop := fnExactFaceLevelUptoRow.holds Try.pinned (OpenSpec.upto fnExactFaceLevelSpec)

/-- 'laws.FnExactDeepestLevel', WHERE WHAT IT READS IS OF BULK AT MOST 1048576: true; the input reads as it did. -/
def fnExactDeepestLevelUptoRow : OpenClaim := { program := "ytplchdejfhkmlaa", sum := "3e41ed0be2c00323c8ea9f2ce91d0936f3a572ae611bfccebb7f1dafe6e51cbd", func := "loop.example/g00982/laws.FnExactDeepestLevel", spec := "fnExactDeepestLevel", apart := false, narrowed := true }
def FnExactDeepestLevelUptoSaid : Prop := fnExactDeepestLevelUptoRow.holds Try.pinned (OpenSpec.upto fnExactDeepestLevelSpec)

/-- 'laws.FnExactIsBalanced', WHERE WHAT IT READS IS OF BULK AT MOST 1048576: true; the input reads as it did. -/
def fnExactIsBalancedUptoRow : OpenClaim := { program := "ytplchdejfhkmlaa", sum := "3e41ed0be2c00323c8ea9f2ce91d0936f3a572ae611bfccebb7f1dafe6e51cbd", func := "loop.example/g00982/laws.FnExactIsBalanced", spec := "fnExactIsBalanced", apart := false, narrowed := true }
def FnExactIsBalancedUptoSaid : Prop := fnExactIsBalancedUptoRow.holds Try.pinned (OpenSpec.upto fnExactIsBalancedSpec)

/-- 'laws.FnExactLeafAt', WHERE WHAT IT READS IS OF BULK AT MOST 1048576: true; the input reads as it did. -/
def fnExactLeafAtUptoRow : OpenClaim := { program := "ytplchdejfhkmlaa", sum := "3e41ed0be2c00323c8ea9f2ce91d0936f3a572ae611bfccebb7f1dafe6e51cbd", func := "loop.example/g00982/laws.FnExactLeafAt", spec := "fnExactLeafAt", unfollowed := true, recurses := true, apart := false, narrowed := true }
def FnExactLeafAtUptoSaid : Prop := fnExactLeafAtUptoRow.holds Try.pinned (OpenSpec.upto fnExactLeafAtSpec)

/-- 'laws.FnExactCountFaces', WHERE WHAT IT READS IS OF BULK AT MOST 1048576: true; the input reads as it did. -/
def fnExactCountFacesUptoRow : OpenClaim := { program := "ytplchdejfhkmlaa", sum := "3e41ed0be2c00323c8ea9f2ce91d0936f3a572ae611bfccebb7f1dafe6e51cbd", func := "loop.example/g00982/laws.FnExactCountFaces", spec := "fnExactCountFaces", apart := false, narrowed := true }
def FnExactCountFacesUptoSaid : Prop := fnExactCountFacesUptoRow.holds Try.pinned (OpenSpec.upto fnExactCountFacesSpec)

/-- 'laws.FnExactFirstUnbalanced', WHERE WHAT IT READS IS OF BULK AT MOST 1048576: true; the input reads as it did. -/
def fnExactFirstUnbalancedUptoRow : OpenClaim := { program := "ytplchdejfhkmlaa", sum := "3e41ed0be2c00323c8ea9f2ce91d0936f3a572ae611bfccebb7f1dafe6e51cbd", func := "loop.example/g00982/laws.FnExactFirstUnbalanced", spec := "fnExactFirstUnbalanced", apart := false, narrowed := true }
def FnExactFirstUnbalancedUptoSaid : Prop := fnExactFirstUnbalancedUptoRow.holds Try.pinned (OpenSpec.upto fnExactFirstUnbalancedSpec)

end Rows
end Go.Proofs.Ytplchdejfhkmlaa
