/-
  No cell of these rows narrows 'for every input' (looked for: loops, veiled, ifaces, maps, wideKeys, modest, calm, conditions, laid).
  DERIVED. THE GIVEN ROWS OF THIS SEAT. 12 by the template 'for every input the law returns true; each argument reads behind the call as it read before'; 0 by the template 'total and deterministic' (their statements: YtgdjccnjelmmdaaTotals.lean).
  GIVEN WITH THE SEED: the statements are not yours to turn. If you find one false, say at which input.
  Laid BY PROGRAM, IN A SANDBOX (cutbox-rows.mjs): the forced cells as the released guide's own fill.sh prints them over the translation 858d5a0542ab114b… (all of the seat's roots in one cut). By AI agents, Wed Nov 11 2026. No macro, syntax, notation, axiom, sorry.
-/
import Derived.Test.YtgdjccnjelmmdaaChecked
import GoSem.Claim
import GoSem.ClaimJoined
import GoSem.ClaimMapViews
import Derived.JoinedTies
import Derived.KernelRfl
namespace Go.Proofs.Ytgdjccnjelmmdaa
/- THE CELL 'sum', in the pinned program and in every row, IS THE sha256 OF THE DUMP (.gsa) THAT YtgdjccnjelmmdaaProg.lean LOADS. Nothing in Lean hashes anything: it is a label: what it is worth is what the hold of that sum in a sandbox is worth. -/
noncomputable def Try.pinned : Pinned := { name := "ytgdjccnjelmmdaa", sum := "858d5a0542ab114be563eea57ac9208e6add7024819dcb61369a6718a749ca84", checked := Try.checked }
namespace Rows
def none {H : Type} : Left H := { results := [], args := [] }

/-- 'laws.FnExactConstants': WHATEVER THE INPUT: true; the input reads as it did. -/
def fnExactConstantsSpec : ChangeSpec := { name := "fnExactConstants", fn := fun _ => fun
  | [] => { results := [.lit (.bool true)], args := [] }
  | _ => none }
def fnExactConstantsRow : OpenClaim := { program := "ytgdjccnjelmmdaa", sum := "858d5a0542ab114be563eea57ac9208e6add7024819dcb61369a6718a749ca84", func := "loop.example/g00982/laws.FnExactConstants", spec := "fnExactConstants", apart := false }
def FnExactConstantsSaid : Prop := fnExactConstantsRow.holds Try.pinned (OpenSpec.ofChange fnExactConstantsSpec)

/-- ITS FALSE NEIGHBOUR: 'it returns false'. Refute it at one input. -/
def fnExactConstantsWrong : ChangeSpec := { name := "fnExactConstants", fn := fun _ => fun
  | [] => { results := [.lit (.bool false)], args := [] }
  | _ => none }
def FnExactConstantsWrongFalsely : Prop := fnExactConstantsRow.holds Try.pinned (OpenSpec.ofChange fnExactConstantsWrong)

/-- 'laws.FnExactIsPowerOfTwo': WHATEVER THE INPUT: true; the input reads as it did. -/
def fnExactIsPowerOfTwoSpec : ChangeSpec := { name := "fnExactIsPowerOfTwo", fn := fun _ => fun
  | [d] => { results := [.lit (.bool true)], args := [d] }
  | _ => none }
def fnExactIsPowerOfTwoRow : OpenClaim := { program := "ytgdjccnjelmmdaa", sum := "858d5a0542ab114be563eea57ac9208e6add7024819dcb61369a6718a749ca84", func := "loop.example/g00982/laws.FnExactIsPowerOfTwo", spec := "fnExactIsPowerOfTwo", apart := false }
def FnExactIsPowerOfTwoSaid : Prop := fnExactIsPowerOfTwoRow.holds Try.pinned (OpenSpec.ofChange fnExactIsPowerOfTwoSpec)

/-- ITS FALSE NEIGHBOUR: 'it returns false'. Refute it at one input. -/
def fnExactIsPowerOfTwoWrong : ChangeSpec := { name := "fnExactIsPowerOfTwo", fn := fun _ => fun
  | [d] => { results := [.lit (.bool false)], args := [d] }
  | _ => none }
def FnExactIsPowerOfTwoWrongFalsely : Prop := fnExactIsPowerOfTwoRow.holds Try.pinned (OpenSpec.ofChange fnExactIsPowerOfTwoWrong)

/-- 'laws.FnExactDivTrunc': WHATEVER THE INPUT: true; the input reads as it did. -/
def fnExactDivTruncSpec : ChangeSpec := { name := "fnExactDivTrunc", fn := fun _ => fun
  | [d1, d2] => { results := [.lit (.bool true)], args := [d1, d2] }
  | _ => none }
def fnExactDivTruncRow : OpenClaim := { program := "ytgdjccnjelmmdaa", sum := "858d5a0542ab114be563eea57ac9208e6add7024819dcb61369a6718a749ca84", func := "loop.example/g00982/laws.FnExactDivTrunc", spec := "fnExactDivTrunc", apart := false }
def FnExactDivTruncSaid : Prop := fnExactDivTruncRow.holds Try.pinned (OpenSpec.ofChange fnExactDivTruncSpec)

/-- ITS FALSE NEIGHBOUR: 'it returns false'. Refute it at one input. -/
def fnExactDivTruncWrong : ChangeSpec := { name := "fnExactDivTrunc", fn := fun _ => fun
  | [d1, d2] => { results := [.lit (.bool false)], args := [d1, d2] }
  | _ => none }
def FnExactDivTruncWrongFalsely : Prop := fnExactDivTruncRow.holds Try.pinned (OpenSpec.ofChange fnExactDivTruncWrong)

/-- 'laws.FnExactSplitEven': WHATEVER THE INPUT: true; the input reads as it did. -/
def fnExactSplitEvenSpec : ChangeSpec := { name := "fnExactSplitEven", fn := fun _ => fun
  | [d] => { results := [.lit (.bool true)], args := [d] }
  | _ => none }
def fnExactSplitEvenRow : OpenClaim := { program := "ytgdjccnjelmmdaa", sum := "858d5a0542ab114be563eea57ac9208e6add7024819dcb61369a6718a749ca84", func := "loop.example/g00982/laws.FnExactSplitEven", spec := "fnExactSplitEven", apart := false }
def FnExactSplitEvenSaid : Prop := fnExactSplitEvenRow.holds Try.pinned (OpenSpec.ofChange fnExactSplitEvenSpec)

/-- ITS FALSE NEIGHBOUR: 'it returns false'. Refute it at one input. -/
def fnExactSplitEvenWrong : ChangeSpec := { name := "fnExactSplitEven", fn := fun _ => fun
  | [d] => { results := [.lit (.bool false)], args := [d] }
  | _ => none }
def FnExactSplitEvenWrongFalsely : Prop := fnExactSplitEvenRow.holds Try.pinned (OpenSpec.ofChange fnExactSplitEvenWrong)

/-- 'laws.FnExactShareOut': WHATEVER THE INPUT: true; the input reads as it did. -/
def fnExactShareOutSpec : ChangeSpec := { name := "fnExactShareOut", fn := fun _ => fun
  | [d1, d2, d3] => { results := [.lit (.bool true)], args := [d1, d2, d3] }
  | _ => none }
def fnExactShareOutRow : OpenClaim := { program := "ytgdjccnjelmmdaa", sum := "858d5a0542ab114be563eea57ac9208e6add7024819dcb61369a6718a749ca84", func := "loop.example/g00982/laws.FnExactShareOut", spec := "fnExactShareOut", apart := false }
def FnExactShareOutSaid : Prop := fnExactShareOutRow.holds Try.pinned (OpenSpec.ofChange fnExactShareOutSpec)

/-- ITS FALSE NEIGHBOUR: 'it returns false'. Refute it at one input. -/
def fnExactShareOutWrong : ChangeSpec := { name := "fnExactShareOut", fn := fun _ => fun
  | [d1, d2, d3] => { results := [.lit (.bool false)], args := [d1, d2, d3] }
  | _ => none }
def FnExactShareOutWrongFalsely : Prop := fnExactShareOutRow.holds Try.pinned (OpenSpec.ofChange fnExactShareOutWrong)

/-- 'laws.FnExactClamp': WHATEVER THE INPUT: true; the input reads as it did. -/
def fnExactClampSpec : ChangeSpec := { name := "fnExactClamp", fn := fun _ => fun
  | [d1, d2, d3] => { results := [.lit (.bool true)], args := [d1, d2, d3] }
  | _ => none }
def fnExactClampRow : OpenClaim := { program := "ytgdjccnjelmmdaa", sum := "858d5a0542ab114be563eea57ac9208e6add7024819dcb61369a6718a749ca84", func := "loop.example/g00982/laws.FnExactClamp", spec := "fnExactClamp", apart := false }
def FnExactClampSaid : Prop := fnExactClampRow.holds Try.pinned (OpenSpec.ofChange fnExactClampSpec)

/-- ITS FALSE NEIGHBOUR: 'it returns false'. Refute it at one input. -/
def fnExactClampWrong : ChangeSpec := { name := "fnExactClamp", fn := fun _ => fun
  | [d1, d2, d3] => { results := [.lit (.bool false)], args := [d1, d2, d3] }
  | _ => none }
def FnExactClampWrongFalsely : Prop := fnExactClampRow.holds Try.pinned (OpenSpec.ofChange fnExactClampWrong)

/-- 'laws.FnExactWidthOf': WHATEVER THE INPUT: true; the input reads as it did. -/
def fnExactWidthOfSpec : ChangeSpec := { name := "fnExactWidthOf", fn := fun _ => fun
  | [d] => { results := [.lit (.bool true)], args := [d] }
  | _ => none }
def fnExactWidthOfRow : OpenClaim := { program := "ytgdjccnjelmmdaa", sum := "858d5a0542ab114be563eea57ac9208e6add7024819dcb61369a6718a749ca84", func := "loop.example/g00982/laws.FnExactWidthOf", spec := "fnExactWidthOf", apart := false }
def FnExactWidthOfSaid : Prop := fnExactWidthOfRow.holds Try.pinned (OpenSpec.ofChange fnExactWidthOfSpec)

/-- ITS FALSE NEIGHBOUR: 'it returns false'. Refute it at one input. -/
def fnExactWidthOfWrong : ChangeSpec := { name := "fnExactWidthOf", fn := fun _ => fun
  | [d] => { results := [.lit (.bool false)], args := [d] }
  | _ => none }
def FnExactWidthOfWrongFalsely : Prop := fnExactWidthOfRow.holds Try.pinned (OpenSpec.ofChange fnExactWidthOfWrong)

/-- 'laws.FnExactIdOk': WHATEVER THE INPUT: true; the input reads as it did. -/
def fnExactIdOkSpec : ChangeSpec := { name := "fnExactIdOk", fn := fun _ => fun
  | [d] => { results := [.lit (.bool true)], args := [d] }
  | _ => none }
def fnExactIdOkRow : OpenClaim := { program := "ytgdjccnjelmmdaa", sum := "858d5a0542ab114be563eea57ac9208e6add7024819dcb61369a6718a749ca84", func := "loop.example/g00982/laws.FnExactIdOk", spec := "fnExactIdOk", apart := false }
def FnExactIdOkSaid : Prop := fnExactIdOkRow.holds Try.pinned (OpenSpec.ofChange fnExactIdOkSpec)

/-- ITS FALSE NEIGHBOUR: 'it returns false'. Refute it at one input. -/
def fnExactIdOkWrong : ChangeSpec := { name := "fnExactIdOk", fn := fun _ => fun
  | [d] => { results := [.lit (.bool false)], args := [d] }
  | _ => none }
def FnExactIdOkWrongFalsely : Prop := fnExactIdOkRow.holds Try.pinned (OpenSpec.ofChange fnExactIdOkWrong)

/-- 'laws.FnExactDivFloor': WHATEVER THE INPUT: true; the input reads as it did. -/
def fnExactDivFloorSpec : ChangeSpec := { name := "fnExactDivFloor", fn := fun _ => fun
  | [d1, d2] => { results := [.lit (.bool true)], args := [d1, d2] }
  | _ => none }
def fnExactDivFloorRow : OpenClaim := { program := "ytgdjccnjelmmdaa", sum := "858d5a0542ab114be563eea57ac9208e6add7024819dcb61369a6718a749ca84", func := "loop.example/g00982/laws.FnExactDivFloor", spec := "fnExactDivFloor", apart := false }
def FnExactDivFloorSaid : Prop := fnExactDivFloorRow.holds Try.pinned (OpenSpec.ofChange fnExactDivFloorSpec)

/-- ITS FALSE NEIGHBOUR: 'it returns false'. Refute it at one input. -/
def fnExactDivFloorWrong : ChangeSpec := { name := "fnExactDivFloor", fn := fun _ => fun
  | [d1, d2] => { results := [.lit (.bool false)], args := [d1, d2] }
  | _ => none }
def FnExactDivFloorWrongFalsely : Prop := fnExactDivFloorRow.holds Try.pinned (OpenSpec.ofChange fnExactDivFloorWrong)

/-- 'laws.FnExactContains': WHATEVER THE INPUT: true; the input reads as it did. -/
def fnExactContainsSpec : ChangeSpec := { name := "fnExactContains", fn := fun _ => fun
  | [d1, d2] => { results := [.lit (.bool true)], args := [d1, d2] }
  | _ => none }
def fnExactContainsRow : OpenClaim := { program := "ytgdjccnjelmmdaa", sum := "858d5a0542ab114be563eea57ac9208e6add7024819dcb61369a6718a749ca84", func := "loop.example/g00982/laws.FnExactContains", spec := "fnExactContains", apart := false }
def FnExactContainsSaid : Prop := fnExactContainsRow.holds Try.pinned (OpenSpec.ofChange fnExactContainsSpec)

/-- ITS FALSE NEIGHBOUR: 'it returns false'. Refute it at one input. -/
def fnExactContainsWrong : ChangeSpec := { name := "fnExactContains", fn := fun _ => fun
  | [d1, d2] => { results := [.lit (.bool false)], args := [d1, d2] }
  | _ => none }
def FnExactContainsWrongFalsely : Prop := fnExactContainsRow.holds Try.pinned (OpenSpec.ofChange fnExactContainsWrong)

/-- 'laws.FnExactLogTwo': WHATEVER THE INPUT: true; the input reads as it did. -/
def fnExactLogTwoSpec : ChangeSpec := { name := "fnExactLogTwo", fn := fun _ => fun
  | [d] => { results := [.lit (.bool true)], args := [d] }
  | _ => none }
def fnExactLogTwoRow : OpenClaim := { program := "ytgdjccnjelmmdaa", sum := "858d5a0542ab114be563eea57ac9208e6add7024819dcb61369a6718a749ca84", func := "loop.example/g00982/laws.FnExactLogTwo", spec := "fnExactLogTwo", apart := false }
def FnExactLogTwoSaid : Prop := fnExactLogTwoRow.holds Try.pinned (OpenSpec.ofChange fnExactLogTwoSpec)

/-- ITS FALSE NEIGHBOUR: 'it returns false'. Refute it at one input. -/
def fnExactLogTwoWrong : ChangeSpec := { name := "fnExactLogTwo", fn := fun _ => fun
  | [d] => { results := [.lit (.bool false)], args := [d] }
  | _ => none }
def FnExactLogTwoWrongFalsely : Prop := fnExactLogTwoRow.holds Try.pinned (OpenSpec.ofChange fnExactLogTwoWrong)

/-- 'laws.FnExactEncodeHex': WHATEVER THE INPUT: true; the input reads as it did. -/
def fnExactEncodeHexSpec : ChangeSpec := { name := "fnExactEncodeHex", fn := fun _ => fun
  | [d] => { results := [.lit (.bool true)], args := [d] }
  | _ => none }
def fnExactEncodeHexRow : OpenClaim := { program := "ytgdjccnjelmmdaa", sum := "858d5a0542ab114be563eea57ac9208e6add7024819dcb61369a6718a749ca84", func := "loop.example/g00982/laws.FnExactEncodeHex", spec := "fnExactEncodeHex", apart := false }
def FnExactEncodeHexSaid : Prop := fnExactEncodeHexRow.holds Try.pinned (OpenSpec.ofChange fnExactEncodeHexSpec)

/-- ITS FALSE NEIGHBOUR: 'it returns false'. Refute it at one input. -/
def fnExactEncodeHexWrong : ChangeSpec := { name := "fnExactEncodeHex", fn := fun _ => fun
  | [d] => { results := [.lit (.bool false)], args := [d] }
  | _ => none }
def FnExactEncodeHexWrongFalsely : Prop := fnExactEncodeHexRow.holds Try.pinned (OpenSpec.ofChange fnExactEncodeHexWrong)

/- THE SECOND FORM. 'bulk': how many values and letters a reading holds, each counted each time it is reached (what is shared counts as often as it is met; a slice's spare places count too). A statement '..UptoSaid' is the law's where the arguments, and the package variables that the reading takes, are together of bulk at most 1048576: NARROWER than '..Said'. Prove '..Said' where nothing that the law and all that it calls make is longer than what came in: it says more and counts as full. Else prove '..UptoSaid'. A law counts once. -/
mutual
def uptoBulk {H : Type} : DataW H → Nat
  | .lit (.string bytes) => bytes.length + 1
  | .lit _ => 1
  | .nil => 1
  | .ptr d => uptoBulk d + 1
  | .slice elems spare => uptoBulkAll elems + uptoBulkAll spare + 1
  | .agg parts => uptoBulkAll parts + 1
  | .iface _ d => uptoBulk d + 1
  | .map entries => uptoBulkEntries entries + 1
  | .held _ => 1
def uptoBulkAll {H : Type} : List (DataW H) → Nat
  | [] => 0
  | d :: r => uptoBulk d + uptoBulkAll r
def uptoBulkEntries {H : Type} : List (Lit × DataW H) → Nat
  | [] => 0
  | x :: r => uptoBulkEntry x + uptoBulkEntries r
def uptoBulkEntry {H : Type} : Lit × DataW H → Nat
  | (.string bytes, d) => bytes.length + uptoBulk d + 1
  | (_, d) => uptoBulk d + 1
 end
def uptoSmall : (H : Type) → List (DataW H) → Bool := fun _ ds => decide (uptoBulkAll ds ≤ 1048576)
def OpenSpec.upto (s : _root_.Go.ChangeSpec) : _root_.Go.OpenSpec := { _root_.Go.OpenSpec.ofChange s with cond := some uptoSmall }

/-- 'laws.FnExactConstants', WHERE WHAT IT READS IS OF BULK AT MOST 1048576: true; the input reads as it did. -/
def fnExactConstantsUptoRow : OpenClaim := { program := "ytgdjccnjelmmdaa", sum := "858d5a0542ab114be563eea57ac9208e6add7024819dcb61369a6718a749ca84", func := "loop.example/g00982/laws.FnExactConstants", spec := "fnExactConstants", apart := false, narrowed := true }
def FnExactConstantsUptoSaid : Prop := fnExactConstantsUptoRow.holds Try.pinned (OpenSpec.upto fnExactConstantsSpec)

/-- 'laws.FnExactIsPowerOfTwo', WHERE WHAT IT READS IS OF BULK AT MOST 1048576: true; the input reads as it did. -/
def fnExactIsPowerOfTwoUptoRow : OpenClaim := { program := "ytgdjccnjelmmdaa", sum := "858d5a0542ab114be563eea57ac9208e6add7024819dcb61369a6718a749ca84", func := "loop.example/g00982/laws.FnExactIsPowerOfTwo", spec := "fnExactIsPowerOfTwo", apart := false, narrowed := true }
def FnExactIsPowerOfTwoUptoSaid : Prop := fnExactIsPowerOfTwoUptoRow.holds Try.pinned (OpenSpec.upto fnExactIsPowerOfTwoSpec)

/-- 'laws.FnExactDivTrunc', WHERE WHAT IT READS IS OF BULK AT MOST 1048576: true; the input reads as it did. -/
def fnExactDivTruncUptoRow : OpenClaim := { program := "ytgdjccnjelmmdaa", sum := "858d5a0542ab114be563eea57ac9208e6add7024819dcb61369a6718a749ca84", func := "loop.example/g00982/laws.FnExactDivTrunc", spec := "fnExactDivTrunc", apart := false, narrowed := true }
def FnExactDivTruncUptoSaid : Prop := fnExactDivTruncUptoRow.holds Try.pinned (OpenSpec.upto fnExactDivTruncSpec)

/-- 'laws.FnExactSplitEven', WHERE WHAT IT READS IS OF BULK AT MOST 1048576: true; the input reads as it did. -/
def fnExactSplitEvenUptoRow : OpenClaim := { program := "ytgdjccnjelmmdaa", sum := "858d5a0542ab114be563eea57ac9208e6add7024819dcb61369a6718a749ca84", func := "loop.example/g00982/laws.FnExactSplitEven", spec := "fnExactSplitEven", apart := false, narrowed := true }
def FnExactSplitEvenUptoSaid : Prop := fnExactSplitEvenUptoRow.holds Try.pinned (OpenSpec.upto fnExactSplitEvenSpec)

/-- 'laws.FnExactShareOut', WHERE WHAT IT READS IS OF BULK AT MOST 1048576: true; the input reads as it did. -/
def fnExactShareOutUptoRow : OpenClaim := { program := "ytgdjccnjelmmdaa", sum := "858d5a0542ab114be563eea57ac9208e6add7024819dcb61369a6718a749ca84", func := "loop.example/g00982/laws.FnExactShareOut", spec := "fnExactShareOut", apart := false, narrowed := true }
def FnExactShareOutUptoSaid : Prop := fnExactShareOutUptoRow.holds Try.pinned (OpenSpec.upto fnExactShareOutSpec)

/-- 'laws.FnExactClamp', WHERE WHAT IT READS IS OF BULK AT MOST 1048576: true; the input reads as it did. -/
def fnExactClampUptoRow : OpenClaim := { program := "ytgdjccnjelmmdaa", sum := "858d5a0542ab114be563eea57ac9208e6add7024819dcb61369a6718a749ca84", func := "loop.example/g00982/laws.FnExactClamp", spec := "fnExactClamp", apart := false, narrowed := true }
def FnExactClampUptoSaid : Prop := fnExactClampUptoRow.holds Try.pinned (OpenSpec.upto fnExactClampSpec)

/-- 'laws.FnExactWidthOf', WHERE WHAT IT READS IS OF BULK AT MOST 1048576: true; the input reads as it did. -/
def fnExactWidthOfUptoRow : OpenClaim := { program := "ytgdjccnjelmmdaa", sum := "858d5a0542ab114be563eea57ac9208e6add7024819dcb61369a6718a749ca84", func := "loop.example/g00982/laws.FnExactWidthOf", spec := "fnExactWidthOf", apart := false, narrowed := true }
def FnExactWidthOfUptoSaid : Prop := fnExactWidthOfUptoRow.holds Try.pinned (OpenSpec.upto fnExactWidthOfSpec)

/-- 'laws.FnExactIdOk', WHERE WHAT IT READS IS OF BULK AT MOST 1048576: true; the input reads as it did. -/
def fnExactIdOkUptoRow : OpenClaim := { program := "ytgdjccnjelmmdaa", sum := "858d5a0542ab114be563eea57ac9208e6add7024819dcb61369a6718a749ca84", func := "loop.example/g00982/laws.FnExactIdOk", spec := "fnExactIdOk", apart := false, narrowed := true }
def FnExactIdOkUptoSaid : Prop := fnExactIdOkUptoRow.holds Try.pinned (OpenSpec.upto fnExactIdOkSpec)

/-- 'laws.FnExactDivFloor', WHERE WHAT IT READS IS OF BULK AT MOST 1048576: true; the input reads as it did. -/
def fnExactDivFloorUptoRow : OpenClaim := { program := "ytgdjccnjelmmdaa", sum := "858d5a0542ab114be563eea57ac9208e6add7024819dcb61369a6718a749ca84", func := "loop.example/g00982/laws.FnExactDivFloor", spec := "fnExactDivFloor", apart := false, narrowed := true }
def FnExactDivFloorUptoSaid : Prop := fnExactDivFloorUptoRow.holds Try.pinned (OpenSpec.upto fnExactDivFloorSpec)

/-- 'laws.FnExactContains', WHERE WHAT IT READS IS OF BULK AT MOST 1048576: true; the input reads as it did. -/
def fnExactContainsUptoRow : OpenClaim := { program := "ytgdjccnjelmmdaa", sum := "858d5a0542ab114be563eea57ac9208e6add7024819dcb61369a6718a749ca84", func := "loop.example/g00982/laws.FnExactContains", spec := "fnExactContains", apart := false, narrowed := true }
def FnExactContainsUptoSaid : Prop := fnExactContainsUptoRow.holds Try.pinned (OpenSpec.upto fnExactContainsSpec)

/-- 'laws.FnExactLogTwo', WHERE WHAT IT READS IS OF BULK AT MOST 1048576: true; the input reads as it did. -/
def fnExactLogTwoUptoRow : OpenClaim := { program := "ytgdjccnjelmmdaa", sum := "858d5a0542ab114be563eea57ac9208e6add7024819dcb61369a6718a749ca84", func := "loop.example/g00982/laws.FnExactLogTwo", spec := "fnExactLogTwo", apart := false, narrowed := true }
def FnExactLogTwoUptoSaid : Prop := fnExactLogTwoUptoRow.holds Try.pinned (OpenSpec.upto fnExactLogTwoSpec)

/-- 'laws.FnExactEncodeHex', WHERE WHAT IT READS IS OF BULK AT MOST 1048576: true; the input reads as it did. -/
def fnExactEncodeHexUptoRow : OpenClaim := { program := "ytgdjccnjelmmdaa", sum := "858d5a0542ab114be563eea57ac9208e6add7024819dcb61369a6718a749ca84", func := "loop.example/g00982/laws.FnExactEncodeHex", spec := "fnExactEncodeHex", apart := false, narrowed := true }
def FnExactEncodeHexUptoSaid : Prop := fnExactEncodeHexUptoRow.holds Try.pinned (OpenSpec.upto fnExactEncodeHexSpec)

end Rows
end Go.Proofs.Ytgdjccnjelmmdaa
