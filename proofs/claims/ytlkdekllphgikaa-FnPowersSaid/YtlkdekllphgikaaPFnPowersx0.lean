/- Written by this repo's own copy of a print: plain functions beneath a law, and the proof that the program computes them; no condition. -/
import Derived.Test.YtlkdekllphgikaaProg
import Derived.Below
import Derived.Deep.Draws
import Derived.Deep.AppendLies
import Derived.Maps.AppendAt
import Derived.OwnWalk
import Derived.Laws.BytesArg
import Derived.Laws.MakeOwn
import Derived.Laws.OwnMore
import Derived.Deep.OwnRows
import Derived.Tactics
import Derived.Lib.ConvBytes
import Derived.Laws.Slices
import Derived.WalkKit
import Derived.KernelRfl
import Derived.RowKit3
import Derived.Deep.LoopGhost
import Derived.Deep.QuietTactic
import Derived.BigQuiet
import Derived.WideLaws
import Derived.Deep.DeepCutAuto
import Derived.Deep.CutBlock
import Derived.Deep.RegionHeld3
import Derived.Laws.Rows
import Derived.Lib.AppendStr
import Derived.ArgAppend
import Derived.Laws.IdiomCopy
import Derived.OrdersHeld
import Derived.Laws.BitsLemmas
import Derived.RowKit
import Derived.Test.YtlkdekllphgikaaShelf
import Derived.Test.YtlkdekllphgikaaWWords
import Derived.Test.YtlkdekllphgikaaWLast
import Derived.Test.YtlkdekllphgikaaWTab
import Derived.Test.YtlkdekllphgikaaWFour
import Derived.Test.YtlkdekllphgikaaWQPut
import Derived.Test.YtlkdekllphgikaaWApart
import Derived.Test.YtlkdekllphgikaaWArr
import Derived.Test.YtlkdekllphgikaaWZeros
import Derived.Test.YtlkdekllphgikaaWFoot
import Derived.Test.YtlkdekllphgikaaWKept
import Derived.Test.YtlkdekllphgikaaWShare
import Derived.Test.YtlkdekllphgikaaWN
import Derived.Test.YtlkdekllphgikaaWFootNe
import Derived.Test.YtlkdekllphgikaaWAt
import Derived.Test.YtlkdekllphgikaaWEqStruct
import Derived.Test.YtlkdekllphgikaaWRepsOne
import Derived.Test.YtlkdekllphgikaaWInv
import Derived.Test.YtlkdekllphgikaaWInvWords
import Derived.Test.YtlkdekllphgikaaWGuard
import Derived.Test.YtlkdekllphgikaaWNEv
import Derived.Test.YtlkdekllphgikaaWMore
namespace Go.Proofs.Ytlkdekllphgikaa.PFnPowers
open Go.RowKit Go.Proofs.YtlkdekllphgikaaW.PrintWords Go.Proofs.YtlkdekllphgikaaW.PrintLast Go.Proofs.YtlkdekllphgikaaW.PrintMore
attribute [local go_sem] max2_int min2_int max_two min_two max_three min_three max_four min_four   -- for this text's walks alone
set_option linter.unusedVariables false
set_option linter.unusedSimpArgs false



def errW : Option Int → Value
  | none => .nilIface
  | some c => .iface 0 (.int .i64 c)
theorem errW_none : errW none = .nilIface := rfl
theorem errW_some (c : Int) : errW (some c) = .iface 0 (.int .i64 c) := rfl

theorem info3 : (Try.prog.info? 3).map (fun i => (i.zero, i.size, i.bytes)) = some (some (.int .i64 0), 1, 8) := by kernel_rfl
-- the values' own types

end Go.Proofs.Ytlkdekllphgikaa.PFnPowers
