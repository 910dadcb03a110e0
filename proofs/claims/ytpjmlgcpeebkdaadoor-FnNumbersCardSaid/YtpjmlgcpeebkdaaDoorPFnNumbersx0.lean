/- Written by this repo's own copy of a print: plain functions beneath a law, and the proof that the program computes them; no condition. -/
import Derived.Test.YtpjmlgcpeebkdaaDoorProg
import Derived.Below
import Derived.Deep.Draws
import Derived.Deep.AppendLies
import Derived.Maps.AppendAt
import Derived.OwnWalk
import Derived.Laws.BytesArg
import Derived.Laws.MakeOwn
import Derived.Laws.OwnMore
import Derived.Deep.OwnRows
import Derived.Tactics
import Derived.Lib.ConvBytes
import Derived.Laws.Slices
import Derived.WalkKit
import Derived.KernelRfl
import Derived.RowKit3
import Derived.Deep.LoopGhost
import Derived.Deep.QuietTactic
import Derived.BigQuiet
import Derived.WideLaws
import Derived.Deep.DeepCutAuto
import Derived.Deep.CutBlock
import Derived.Deep.RegionHeld3
import Derived.Laws.Rows
import Derived.Lib.AppendStr
import Derived.ArgAppend
import Derived.Laws.IdiomCopy
import Derived.OrdersHeld
import Derived.Laws.BitsLemmas
import Derived.RowKit
import Derived.Lib.AppendIntMem
import Derived.Lib.AtoiErrMem
import Derived.Test.YtpjmlgcpeebkdaaDoorShelfE
import Derived.Test.YtpjmlgcpeebkdaaDoorTabsE
import Derived.Test.YtpjmlgcpeebkdaaDoorWWords
import Derived.Test.YtpjmlgcpeebkdaaDoorWLast
import Derived.Test.YtpjmlgcpeebkdaaDoorWTab
import Derived.Test.YtpjmlgcpeebkdaaDoorWFour
import Derived.Test.YtpjmlgcpeebkdaaDoorWQPut
import Derived.Test.YtpjmlgcpeebkdaaDoorWApart
import Derived.Test.YtpjmlgcpeebkdaaDoorWArr
import Derived.Test.YtpjmlgcpeebkdaaDoorWZeros
import Derived.Test.YtpjmlgcpeebkdaaDoorWFoot
import Derived.Test.YtpjmlgcpeebkdaaDoorWKept
import Derived.Test.YtpjmlgcpeebkdaaDoorWShare
import Derived.Test.YtpjmlgcpeebkdaaDoorWN
import Derived.Test.YtpjmlgcpeebkdaaDoorWFootNe
import Derived.Test.YtpjmlgcpeebkdaaDoorWAt
import Derived.Test.YtpjmlgcpeebkdaaDoorWEqStruct
import Derived.Test.YtpjmlgcpeebkdaaDoorWRepsOne
import Derived.Test.YtpjmlgcpeebkdaaDoorWInv
import Derived.Test.YtpjmlgcpeebkdaaDoorWInvWords
import Derived.Test.YtpjmlgcpeebkdaaDoorWGuard
import Derived.Test.YtpjmlgcpeebkdaaDoorWNEv
import Derived.Test.YtpjmlgcpeebkdaaDoorWMore
namespace Go.Proofs.YtpjmlgcpeebkdaaDoor.PFnNumbers
open Go.RowKit Go.Proofs.YtpjmlgcpeebkdaaDoorW.PrintWords Go.Proofs.YtpjmlgcpeebkdaaDoorW.PrintLast Go.Proofs.YtpjmlgcpeebkdaaDoorW.PrintMore
attribute [local go_sem] max2_int min2_int max_two min_two max_three min_three max_four min_four   -- for this text's walks alone
set_option linter.unusedVariables false
set_option linter.unusedSimpArgs false



def errW : Option Int → Value
  | none => .nilIface
  | some c => .iface 0 (.int .i64 c)
theorem errW_none : errW none = .nilIface := rfl
theorem errW_some (c : Int) : errW (some c) = .iface 0 (.int .i64 c) := rfl

theorem info3 : (Tryd.prog.info? 3).map (fun i => (i.zero, i.size, i.bytes)) = some (some (.int .i64 0), 1, 8) := by kernel_rfl
-- the values' own types

end Go.Proofs.YtpjmlgcpeebkdaaDoor.PFnNumbers
