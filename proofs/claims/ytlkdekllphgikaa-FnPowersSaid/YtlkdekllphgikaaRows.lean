/-
  No cell of these rows narrows 'for every input' (looked for: loops, veiled, ifaces, maps, wideKeys, modest, calm, conditions, laid).
  DERIVED. THE GIVEN ROWS OF THIS SEAT. 12 by the template 'for every input the law returns true; each argument reads behind the call as it read before'; 0 by the template 'total and deterministic' (their statements: YtlkdekllphgikaaTotals.lean).
  GIVEN WITH THE SEED: the statements are not yours to turn. If you find one false, say at which input.
  Laid BY PROGRAM, IN A SANDBOX (cutbox-rows.mjs): the forced cells as the released guide's own fill.sh prints them over the translation 1085f89e911b7723… (all of the seat's roots in one cut). By AI agents, Wed Nov 11 2026. No macro, syntax, notation, axiom, sorry.
-/
import Derived.Test.YtlkdekllphgikaaChecked
import GoSem.Claim
import GoSem.ClaimJoined
import GoSem.ClaimMapViews
import Derived.JoinedTies
import Derived.KernelRfl
namespace Go.Proofs.Ytlkdekllphgikaa
/- THE CELL 'sum', in the pinned program and in every row, IS THE sha256 OF THE DUMP (.gsa) THAT YtlkdekllphgikaaProg.lean LOADS. Nothing in Lean hashes anything: it is a label: what it is worth is what the hold of that sum in a sandbox is worth. -/
noncomputable def Try.pinned : Pinned := { name := "ytlkdekllphgikaa", sum := "1085f89e911b7723342ed344e07e3aecd24bdb868f099c03932ec56c7708fae6", checked := Try.checked }
namespace Rows
def none {H : Type} : Left H := { results := [], args := [] }

/-- 'laws.FnExactIsSibling': WHATEVER THE INPUT: true; the input reads as it did. -/
def fnExactIsSiblingSpec : ChangeSpec := { name := "fnExactIsSibling", fn := fun _ => fun
  | [d1, d2] => { results := [.lit (.bool true)], args := [d1, d2] }
  | _ => none }
def fnExactIsSiblingRow : OpenClaim := { program := "ytlkdekllphgikaa", sum := "1085f89e911b7723342ed344e07e3aecd24bdb868f099c03932ec56c7708fae6", func := "loop.example/g00982/laws.FnExactIsSibling", spec := "fnExactIsSibling", apart := false }
def FnExactIsSiblingSaid : Prop := fnExactIsSiblingRow.holds Try.pinned (OpenSpec.ofChange fnExactIsSiblingSpec)

/-- ITS FALSE NEIGHBOUR: 'it returns false'. Refute it at one input. -/
def fnExactIsSiblingWrong : ChangeSpec := { name := "fnExactIsSibling", fn := fun _ => fun
  | [d1, d2] => { results := [.lit (.bool false)], args := [d1, d2] }
  | _ => none }
def FnExactIsSiblingWrongFalsely : Prop := fnExactIsSiblingRow.holds Try.pinned (OpenSpec.ofChange fnExactIsSiblingWrong)

/-- 'laws.FnExactDivNear': WHATEVER THE INPUT: true; the input reads as it did. -/
def fnExactDivNearSpec : ChangeSpec := { name := "fnExactDivNear", fn := fun _ => fun
  | [d1, d2] => { results := [.lit (.bool true)], args := [d1, d2] }
  | _ => none }
def fnExactDivNearRow : OpenClaim := { program := "ytlkdekllphgikaa", sum := "1085f89e911b7723342ed344e07e3aecd24bdb868f099c03932ec56c7708fae6", func := "loop.example/g00982/laws.FnExactDivNear", spec := "fnExactDivNear", apart := false }
def FnExactDivNearSaid : Prop := fnExactDivNearRow.holds Try.pinned (OpenSpec.ofChange fnExactDivNearSpec)

/-- ITS FALSE NEIGHBOUR: 'it returns false'. Refute it at one input. -/
def fnExactDivNearWrong : ChangeSpec := { name := "fnExactDivNear", fn := fun _ => fun
  | [d1, d2] => { results := [.lit (.bool false)], args := [d1, d2] }
  | _ => none }
def FnExactDivNearWrongFalsely : Prop := fnExactDivNearRow.holds Try.pinned (OpenSpec.ofChange fnExactDivNearWrong)

/-- 'laws.FnExactParentOf': WHATEVER THE INPUT: true; the input reads as it did. -/
def fnExactParentOfSpec : ChangeSpec := { name := "fnExactParentOf", fn := fun _ => fun
  | [d] => { results := [.lit (.bool true)], args := [d] }
  | _ => none }
def fnExactParentOfRow : OpenClaim := { program := "ytlkdekllphgikaa", sum := "1085f89e911b7723342ed344e07e3aecd24bdb868f099c03932ec56c7708fae6", func := "loop.example/g00982/laws.FnExactParentOf", spec := "fnExactParentOf", apart := false }
def FnExactParentOfSaid : Prop := fnExactParentOfRow.holds Try.pinned (OpenSpec.ofChange fnExactParentOfSpec)

/-- ITS FALSE NEIGHBOUR: 'it returns false'. Refute it at one input. -/
def fnExactParentOfWrong : ChangeSpec := { name := "fnExactParentOf", fn := fun _ => fun
  | [d] => { results := [.lit (.bool false)], args := [d] }
  | _ => none }
def FnExactParentOfWrongFalsely : Prop := fnExactParentOfRow.holds Try.pinned (OpenSpec.ofChange fnExactParentOfWrong)

/-- 'laws.FnExactStartOf': WHATEVER THE INPUT: true; the input reads as it did. -/
def fnExactStartOfSpec : ChangeSpec := { name := "fnExactStartOf", fn := fun _ => fun
  | [d] => { results := [.lit (.bool true)], args := [d] }
  | _ => none }
def fnExactStartOfRow : OpenClaim := { program := "ytlkdekllphgikaa", sum := "1085f89e911b7723342ed344e07e3aecd24bdb868f099c03932ec56c7708fae6", func := "loop.example/g00982/laws.FnExactStartOf", spec := "fnExactStartOf", apart := false }
def FnExactStartOfSaid : Prop := fnExactStartOfRow.holds Try.pinned (OpenSpec.ofChange fnExactStartOfSpec)

/-- ITS FALSE NEIGHBOUR: 'it returns false'. Refute it at one input. -/
def fnExactStartOfWrong : ChangeSpec := { name := "fnExactStartOf", fn := fun _ => fun
  | [d] => { results := [.lit (.bool false)], args := [d] }
  | _ => none }
def FnExactStartOfWrongFalsely : Prop := fnExactStartOfRow.holds Try.pinned (OpenSpec.ofChange fnExactStartOfWrong)

/-- 'laws.FnExactChildOf': WHATEVER THE INPUT: true; the input reads as it did. -/
def fnExactChildOfSpec : ChangeSpec := { name := "fnExactChildOf", fn := fun _ => fun
  | [d1, d2] => { results := [.lit (.bool true)], args := [d1, d2] }
  | _ => none }
def fnExactChildOfRow : OpenClaim := { program := "ytlkdekllphgikaa", sum := "1085f89e911b7723342ed344e07e3aecd24bdb868f099c03932ec56c7708fae6", func := "loop.example/g00982/laws.FnExactChildOf", spec := "fnExactChildOf", apart := false }
def FnExactChildOfSaid : Prop := fnExactChildOfRow.holds Try.pinned (OpenSpec.ofChange fnExactChildOfSpec)

/-- ITS FALSE NEIGHBOUR: 'it returns false'. Refute it at one input. -/
def fnExactChildOfWrong : ChangeSpec := { name := "fnExactChildOf", fn := fun _ => fun
  | [d1, d2] => { results := [.lit (.bool false)], args := [d1, d2] }
  | _ => none }
def FnExactChildOfWrongFalsely : Prop := fnExactChildOfRow.holds Try.pinned (OpenSpec.ofChange fnExactChildOfWrong)

/-- 'laws.FnExactDecodeHex': WHATEVER THE INPUT: true; the input reads as it did. -/
def fnExactDecodeHexSpec : ChangeSpec := { name := "fnExactDecodeHex", fn := fun _ => fun
  | [d] => { results := [.lit (.bool true)], args := [d] }
  | _ => none }
def fnExactDecodeHexRow : OpenClaim := { program := "ytlkdekllphgikaa", sum := "1085f89e911b7723342ed344e07e3aecd24bdb868f099c03932ec56c7708fae6", func := "loop.example/g00982/laws.FnExactDecodeHex", spec := "fnExactDecodeHex", apart := false }
def FnExactDecodeHexSaid : Prop := fnExactDecodeHexRow.holds Try.pinned (OpenSpec.ofChange fnExactDecodeHexSpec)

/-- ITS FALSE NEIGHBOUR: 'it returns false'. Refute it at one input. -/
def fnExactDecodeHexWrong : ChangeSpec := { name := "fnExactDecodeHex", fn := fun _ => fun
  | [d] => { results := [.lit (.bool false)], args := [d] }
  | _ => none }
def FnExactDecodeHexWrongFalsely : Prop := fnExactDecodeHexRow.holds Try.pinned (OpenSpec.ofChange fnExactDecodeHexWrong)

/-- 'laws.FnClamped': WHATEVER THE INPUT: true; the input reads as it did. -/
def fnClampedSpec : ChangeSpec := { name := "fnClamped", fn := fun _ => fun
  | [d] => { results := [.lit (.bool true)], args := [d] }
  | _ => none }
def fnClampedRow : OpenClaim := { program := "ytlkdekllphgikaa", sum := "1085f89e911b7723342ed344e07e3aecd24bdb868f099c03932ec56c7708fae6", func := "loop.example/g00982/laws.FnClamped", spec := "fnClamped", apart := false }
def FnClampedSaid : Prop := fnClampedRow.holds Try.pinned (OpenSpec.ofChange fnClampedSpec)

/-- ITS FALSE NEIGHBOUR: 'it returns false'. Refute it at one input. -/
def fnClampedWrong : ChangeSpec := { name := "fnClamped", fn := fun _ => fun
  | [d] => { results := [.lit (.bool false)], args := [d] }
  | _ => none }
def FnClampedWrongFalsely : Prop := fnClampedRow.holds Try.pinned (OpenSpec.ofChange fnClampedWrong)

/-- 'laws.FnQuotients': WHATEVER THE INPUT: true; the input reads as it did. -/
def fnQuotientsSpec : ChangeSpec := { name := "fnQuotients", fn := fun _ => fun
  | [d] => { results := [.lit (.bool true)], args := [d] }
  | _ => none }
def fnQuotientsRow : OpenClaim := { program := "ytlkdekllphgikaa", sum := "1085f89e911b7723342ed344e07e3aecd24bdb868f099c03932ec56c7708fae6", func := "loop.example/g00982/laws.FnQuotients", spec := "fnQuotients", apart := false }
def FnQuotientsSaid : Prop := fnQuotientsRow.holds Try.pinned (OpenSpec.ofChange fnQuotientsSpec)

/-- ITS FALSE NEIGHBOUR: 'it returns false'. Refute it at one input. -/
def fnQuotientsWrong : ChangeSpec := { name := "fnQuotients", fn := fun _ => fun
  | [d] => { results := [.lit (.bool false)], args := [d] }
  | _ => none }
def FnQuotientsWrongFalsely : Prop := fnQuotientsRow.holds Try.pinned (OpenSpec.ofChange fnQuotientsWrong)

/-- 'laws.FnPowers': WHATEVER THE INPUT: true; the input reads as it did. -/
def fnPowersSpec : ChangeSpec := { name := "fnPowers", fn := fun _ => fun
  | [d] => { results := [.lit (.bool true)], args := [d] }
  | _ => none }
def fnPowersRow : OpenClaim := { program := "ytlkdekllphgikaa", sum := "1085f89e911b7723342ed344e07e3aecd24bdb868f099c03932ec56c7708fae6", func := "loop.example/g00982/laws.FnPowers", spec := "fnPowers", apart := false }
def FnPowersSaid : Prop := fnPowersRow.holds Try.pinned (OpenSpec.ofChange fnPowersSpec)

/-- ITS FALSE NEIGHBOUR: 'it returns false'. Refute it at one input. -/
def fnPowersWrong : ChangeSpec := { name := "fnPowers", fn := fun _ => fun
  | [d] => { results := [.lit (.bool false)], args := [d] }
  | _ => none }
def FnPowersWrongFalsely : Prop := fnPowersRow.holds Try.pinned (OpenSpec.ofChange fnPowersWrong)

/-- 'laws.FnTrees': WHATEVER THE INPUT: true; the input reads as it did. -/
def fnTreesSpec : ChangeSpec := { name := "fnTrees", fn := fun _ => fun
  | [d] => { results := [.lit (.bool true)], args := [d] }
  | _ => none }
def fnTreesRow : OpenClaim := { program := "ytlkdekllphgikaa", sum := "1085f89e911b7723342ed344e07e3aecd24bdb868f099c03932ec56c7708fae6", func := "loop.example/g00982/laws.FnTrees", spec := "fnTrees", apart := false }
def FnTreesSaid : Prop := fnTreesRow.holds Try.pinned (OpenSpec.ofChange fnTreesSpec)

/-- ITS FALSE NEIGHBOUR: 'it returns false'. Refute it at one input. -/
def fnTreesWrong : ChangeSpec := { name := "fnTrees", fn := fun _ => fun
  | [d] => { results := [.lit (.bool false)], args := [d] }
  | _ => none }
def FnTreesWrongFalsely : Prop := fnTreesRow.holds Try.pinned (OpenSpec.ofChange fnTreesWrong)

/-- 'laws.FnExactLeafOf': WHATEVER THE INPUT: true; the input reads as it did. -/
def fnExactLeafOfSpec : ChangeSpec := { name := "fnExactLeafOf", fn := fun _ => fun
  | [d1, d2] => { results := [.lit (.bool true)], args := [d1, d2] }
  | _ => none }
def fnExactLeafOfRow : OpenClaim := { program := "ytlkdekllphgikaa", sum := "1085f89e911b7723342ed344e07e3aecd24bdb868f099c03932ec56c7708fae6", func := "loop.example/g00982/laws.FnExactLeafOf", spec := "fnExactLeafOf", apart := false }
def FnExactLeafOfSaid : Prop := fnExactLeafOfRow.holds Try.pinned (OpenSpec.ofChange fnExactLeafOfSpec)

/-- ITS FALSE NEIGHBOUR: 'it returns false'. Refute it at one input. -/
def fnExactLeafOfWrong : ChangeSpec := { name := "fnExactLeafOf", fn := fun _ => fun
  | [d1, d2] => { results := [.lit (.bool false)], args := [d1, d2] }
  | _ => none }
def FnExactLeafOfWrongFalsely : Prop := fnExactLeafOfRow.holds Try.pinned (OpenSpec.ofChange fnExactLeafOfWrong)

/-- 'laws.FnExactSameMesh': WHATEVER THE INPUT: true; the input reads as it did. -/
def fnExactSameMeshSpec : ChangeSpec := { name := "fnExactSameMesh", fn := fun _ => fun
  | [d1, d2] => { results := [.lit (.bool true)], args := [d1, d2] }
  | _ => none }
def fnExactSameMeshRow : OpenClaim := { program := "ytlkdekllphgikaa", sum := "1085f89e911b7723342ed344e07e3aecd24bdb868f099c03932ec56c7708fae6", func := "loop.example/g00982/laws.FnExactSameMesh", spec := "fnExactSameMesh", apart := false }
def FnExactSameMeshSaid : Prop := fnExactSameMeshRow.holds Try.pinned (OpenSpec.ofChange fnExactSameMeshSpec)

/-- ITS FALSE NEIGHBOUR: 'it returns false'. Refute it at one input. -/
def fnExactSameMeshWrong : ChangeSpec := { name := "fnExactSameMesh", fn := fun _ => fun
  | [d1, d2] => { results := [.lit (.bool false)], args := [d1, d2] }
  | _ => none }
def FnExactSameMeshWrongFalsely : Prop := fnExactSameMeshRow.holds Try.pinned (OpenSpec.ofChange fnExactSameMeshWrong)

/- THE SECOND FORM. 'bulk': how many values and letters a reading holds, each counted each time it is reached (what is shared counts as often as it is met; a slice's spare places count too). A statement '..UptoSaid' is the law's where the arguments, and the package variables that the reading takes, are together of bulk at most 1048576: NARROWER than '..Said'. Prove '..Said' where nothing that the law and all that it calls make is longer than what came in: it says more and counts as full. Else prove '..UptoSaid'. A law counts once. -/
mutual
def uptoBulk {H : Type} : DataW H → Nat
  | .lit (.string bytes) => bytes.length + 1
  | .lit _ => 1
  | .nil => 1
  | .ptr d => uptoBulk d + 1
  | .slice elems spare => uptoBulkAll elems + uptoBulkAll spare + 1
  | .agg parts => uptoBulkAll parts + 1
  | .iface _ d => uptoBulk d + 1
  | .map entries => uptoBulkEntries entries + 1
  | .held _ => 1
def uptoBulkAll {H : Type} : List (DataW H) → Nat
  | [] => 0
  | d :: r => uptoBulk d + uptoBulkAll r
def uptoBulkEntries {H : Type} : List (Lit × DataW H) → Nat
  | [] => 0
  | x :: r => uptoBulkEntry x + uptoBulkEntries r
def uptoBulkEntry {H : Type} : Lit × DataW H → Nat
  | (.string bytes, d) => bytes.length + uptoBulk d + 1
  | (_, d) => uptoBulk d + 1
 end
def uptoSmall : (H : Type) → List (DataW H) → Bool := fun _ ds => decide (uptoBulkAll ds ≤ 1048576)
def OpenSpec.upto (s : _root_.Go.ChangeSpec) : _root_.Go.OpenSpec := { _root_.Go.OpenSpec.ofChange s with cond := some uptoSmall }

/-- 'laws.FnExactIsSibling', WHERE WHAT IT READS IS OF BULK AT MOST 1048576: true; the input reads as it did. -/
def fnExactIsSiblingUptoRow : OpenClaim := { program := "ytlkdekllphgikaa", sum := "1085f89e911b7723342ed344e07e3aecd24bdb868f099c03932ec56c7708fae6", func := "loop.example/g00982/laws.FnExactIsSibling", spec := "fnExactIsSibling", apart := false, narrowed := true }
def FnExactIsSiblingUptoSaid : Prop := fnExactIsSiblingUptoRow.holds Try.pinned (OpenSpec.upto fnExactIsSiblingSpec)

/-- 'laws.FnExactDivNear', WHERE WHAT IT READS IS OF BULK AT MOST 1048576: true; the input reads as it did. -/
def fnExactDivNearUptoRow : OpenClaim := { program := "ytlkdekllphgikaa", sum := "1085f89e911b7723342ed344e07e3aecd24bdb868f099c03932ec56c7708fae6", func := "loop.example/g00982/laws.FnExactDivNear", spec := "fnExactDivNear", apart := false, narrowed := true }
def FnExactDivNearUptoSaid : Prop := fnExactDivNearUptoRow.holds Try.pinned (OpenSpec.upto fnExactDivNearSpec)

/-- 'laws.FnExactParentOf', WHERE WHAT IT READS IS OF BULK AT MOST 1048576: true; the input reads as it did. -/
def fnExactParentOfUptoRow : OpenClaim := { program := "ytlkdekllphgikaa", sum := "1085f89e911b7723342ed344e07e3aecd24bdb868f099c03932ec56c7708fae6", func := "loop.example/g00982/laws.FnExactParentOf", spec := "fnExactParentOf", apart := false, narrowed := true }
def FnExactParentOfUptoSaid : Prop := fnExactParentOfUptoRow.holds Try.pinned (OpenSpec.upto fnExactParentOfSpec)

/-- 'laws.FnExactStartOf', WHERE WHAT IT READS IS OF BULK AT MOST 1048576: true; the input reads as it did. -/
def fnExactStartOfUptoRow : OpenClaim := { program := "ytlkdekllphgikaa", sum := "1085f89e911b7723342ed344e07e3aecd24bdb868f099c03932ec56c7708fae6", func := "loop.example/g00982/laws.FnExactStartOf", spec := "fnExactStartOf", apart := false, narrowed := true }
def FnExactStartOfUptoSaid : Prop := fnExactStartOfUptoRow.holds Try.pinned (OpenSpec.upto fnExactStartOfSpec)

/-- 'laws.FnExactChildOf', WHERE WHAT IT READS IS OF BULK AT MOST 1048576: true; the input reads as it did. -/
def fnExactChildOfUptoRow : OpenClaim := { program := "ytlkdekllphgikaa", sum := "1085f89e911b7723342ed344e07e3aecd24bdb868f099c03932ec56c7708fae6", func := "loop.example/g00982/laws.FnExactChildOf", spec := "fnExactChildOf", apart := false, narrowed := true }
def FnExactChildOfUptoSaid : Prop := fnExactChildOfUptoRow.holds Try.pinned (OpenSpec.upto fnExactChildOfSpec)

/-- 'laws.FnExactDecodeHex', WHERE WHAT IT READS IS OF BULK AT MOST 1048576: true; the input reads as it did. -/
def fnExactDecodeHexUptoRow : OpenClaim := { program := "ytlkdekllphgikaa", sum := "1085f89e911b7723342ed344e07e3aecd24bdb868f099c03932ec56c7708fae6", func := "loop.example/g00982/laws.FnExactDecodeHex", spec := "fnExactDecodeHex", apart := false, narrowed := true }
def FnExactDecodeHexUptoSaid : Prop := fnExactDecodeHexUptoRow.holds Try.pinned (OpenSpec.upto fnExactDecodeHexSpec)

/-- 'laws.FnClamped', WHERE WHAT IT READS IS OF BULK AT MOST 1048576: true; the input reads as it did. -/
def fnClampedUptoRow : OpenClaim := { program := "ytlkdekllphgikaa", sum := "1085f89e911b7723342ed344e07e3aecd24bdb868f099c03932ec56c7708fae6", func := "loop.example/g00982/laws.FnClamped", spec := "fnClamped", apart := false, narrowed := true }
def FnClampedUptoSaid : Prop := fnClampedUptoRow.holds Try.pinned (OpenSpec.upto fnClampedSpec)

/-- 'laws.FnQuotients', WHERE WHAT IT READS IS OF BULK AT MOST 1048576: true; the input reads as it did. -/
def fnQuotientsUptoRow : OpenClaim := { program := "ytlkdekllphgikaa", sum := "1085f89e911b7723342ed344e07e3aecd24bdb868f099c03932ec56c7708fae6", func := "loop.example/g00982/laws.FnQuotients", spec := "fnQuotients", apart := false, narrowed := true }
def FnQuotientsUptoSaid : Prop := fnQuotientsUptoRow.holds Try.pinned (OpenSpec.upto fnQuotientsSpec)

/-- 'laws.FnPowers', WHERE WHAT IT READS IS OF BULK AT MOST 1048576: true; the input reads as it did. -/
def fnPowersUptoRow : OpenClaim := { program := "ytlkdekllphgikaa", sum := "1085f89e911b7723342ed344e07e3aecd24bdb868f099c03932ec56c7708fae6", func := "loop.example/g00982/laws.FnPowers", spec := "fnPowers", apart := false, narrowed := true }
def FnPowersUptoSaid : Prop := fnPowersUptoRow.holds Try.pinned (OpenSpec.upto fnPowersSpec)

/-- 'laws.FnTrees', WHERE WHAT IT READS IS OF BULK AT MOST 1048576: true; the input reads as it did. -/
def fnTreesUptoRow : OpenClaim := { program := "ytlkdekllphgikaa", sum := "1085f89e911b7723342ed344e07e3aecd24bdb868f099c03932ec56c7708fae6", func := "loop.example/g00982/laws.FnTrees", spec := "fnTrees", apart := false, narrowed := true }
def FnTreesUptoSaid : Prop := fnTreesUptoRow.holds Try.pinned (OpenSpec.upto fnTreesSpec)

/-- 'laws.FnExactLeafOf', WHERE WHAT IT READS IS OF BULK AT MOST 1048576: true; the input reads as it did. -/
def fnExactLeafOfUptoRow : OpenClaim := { program := "ytlkdekllphgikaa", sum := "1085f89e911b7723342ed344e07e3aecd24bdb868f099c03932ec56c7708fae6", func := "loop.example/g00982/laws.FnExactLeafOf", spec := "fnExactLeafOf", apart := false, narrowed := true }
def FnExactLeafOfUptoSaid : Prop := fnExactLeafOfUptoRow.holds Try.pinned (OpenSpec.upto fnExactLeafOfSpec)

/-- 'laws.FnExactSameMesh', WHERE WHAT IT READS IS OF BULK AT MOST 1048576: true; the input reads as it did. -/
def fnExactSameMeshUptoRow : OpenClaim := { program := "ytlkdekllphgikaa", sum := "1085f89e911b7723342ed344e07e3aecd24bdb868f099c03932ec56c7708fae6", func := "loop.example/g00982/laws.FnExactSameMesh", spec := "fnExactSameMesh", apart := false, narrowed := true }
def FnExactSameMeshUptoSaid : Prop := fnExactSameMeshUptoRow.holds Try.pinned (OpenSpec.upto fnExactSameMeshSpec)

end Rows
end Go.Proofs.Ytlkdekllphgikaa
