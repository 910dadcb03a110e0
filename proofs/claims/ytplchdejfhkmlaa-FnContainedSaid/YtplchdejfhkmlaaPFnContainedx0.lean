/- Written by this repo's own copy of a print: plain functions beneath a law, and the proof that the program computes them; no condition. -/
import Derived.Test.YtplchdejfhkmlaaProg
import Derived.Below
import Derived.Deep.Draws
import Derived.Deep.AppendLies
import Derived.Maps.AppendAt
import Derived.OwnWalk
import Derived.Laws.BytesArg
import Derived.Laws.MakeOwn
import Derived.Laws.OwnMore
import Derived.Deep.OwnRows
import Derived.Tactics
import Derived.Lib.ConvBytes
import Derived.Laws.Slices
import Derived.WalkKit
import Derived.KernelRfl
import Derived.RowKit3
import Derived.Deep.LoopGhost
import Derived.Deep.QuietTactic
import Derived.BigQuiet
import Derived.WideLaws
import Derived.Deep.DeepCutAuto
import Derived.Deep.CutBlock
import Derived.Deep.RegionHeld3
import Derived.Laws.Rows
import Derived.Lib.AppendStr
import Derived.ArgAppend
import Derived.Laws.IdiomCopy
import Derived.OrdersHeld
import Derived.Laws.BitsLemmas
import Derived.RowKit
import Derived.Test.YtplchdejfhkmlaaWWords
import Derived.Test.YtplchdejfhkmlaaWLast
import Derived.Test.YtplchdejfhkmlaaWTab
import Derived.Test.YtplchdejfhkmlaaWFour
import Derived.Test.YtplchdejfhkmlaaWQPut
import Derived.Test.YtplchdejfhkmlaaWApart
import Derived.Test.YtplchdejfhkmlaaWArr
import Derived.Test.YtplchdejfhkmlaaWZeros
import Derived.Test.YtplchdejfhkmlaaWFoot
import Derived.Test.YtplchdejfhkmlaaWKept
import Derived.Test.YtplchdejfhkmlaaWShare
import Derived.Test.YtplchdejfhkmlaaWN
import Derived.Test.YtplchdejfhkmlaaWFootNe
import Derived.Test.YtplchdejfhkmlaaWAt
import Derived.Test.YtplchdejfhkmlaaWEqStruct
import Derived.Test.YtplchdejfhkmlaaWRepsOne
import Derived.Test.YtplchdejfhkmlaaWInv
import Derived.Test.YtplchdejfhkmlaaWInvWords
import Derived.Test.YtplchdejfhkmlaaWGuard
import Derived.Test.YtplchdejfhkmlaaWNEv
import Derived.Test.YtplchdejfhkmlaaWMore
namespace Go.Proofs.Ytplchdejfhkmlaa.PFnContained
open Go.RowKit Go.Proofs.YtplchdejfhkmlaaW.PrintWords Go.Proofs.YtplchdejfhkmlaaW.PrintLast Go.Proofs.YtplchdejfhkmlaaW.PrintMore
attribute [local go_sem] max2_int min2_int max_two min_two max_three min_three max_four min_four   -- for this text's walks alone
set_option linter.unusedVariables false
set_option linter.unusedSimpArgs false



def errW : Option Int → Value
  | none => .nilIface
  | some c => .iface 0 (.int .i64 c)
theorem errW_none : errW none = .nilIface := rfl
theorem errW_some (c : Int) : errW (some c) = .iface 0 (.int .i64 c) := rfl

theorem info3 : (Try.prog.info? 3).map (fun i => (i.zero, i.size, i.bytes)) = some (some (.int .i64 0), 1, 8) := by kernel_rfl
-- the values' own types

end Go.Proofs.Ytplchdejfhkmlaa.PFnContained
