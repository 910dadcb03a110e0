/- The table of powers of ten, as the program's text lays it, and that it stays while a call writes nothing below its own blocks; no condition. -/
import Derived.Test.YtpjmlgcpeebkdaaDoorRows
import Derived.Lib.LaidTab
import Derived.Lib.ItoaNum
import Derived.Lib.SmallJoins
import Derived.Stop.LaidErr
import Derived.MakeChecks
set_option maxRecDepth 100000
namespace Go.Proofs.YtpjmlgcpeebkdaaDoor.Tabs
open Go.RowKit
theorem gPow : Tryd.prog.globalNamed "internal/strconv.uint64pow10" = some 4 := by kernel_rfl
theorem tPow : (Tryd.prog.globals[4]?).map (·.type) = some 145 := by kernel_rfl
def T (w : World) : Prop := Lib.TabIs Tryd.prog w "internal/strconv.uint64pow10" .u64 Lib.pow10Tab
theorem T.stays {B : Nat} {w w' : World} (h : T w) (hb : Below B w w') (hB : w.heap.size ≤ B) : T w' := Joins.tab_stays gPow h hb hB
theorem T.of_laid {rest : List (String × DataW Unit)} {W : World} (hr : (rest.all fun x => x.2.handleName?.isNone) = true) (h : laidMetH Tryd.prog (("math/bits.deBruijn32tab", Rows.laid_math_bits_deBruijn32tab) :: ("math/bits.deBruijn64tab", Rows.laid_math_bits_deBruijn64tab) :: ("internal/strconv.uint64pow10", Rows.laid_internal_strconv_uint64pow10) :: rest) W) : T W := by
  rw [MakeChecks.laidMetH_plain _ _ _ (by simpa using ⟨by kernel_rfl, by kernel_rfl, by kernel_rfl, fun a b hm => by simpa using List.all_eq_true.1 hr (a, b) hm⟩)] at h
  have h2 := h.tail.tail
  have e : (Rows.laid_internal_strconv_uint64pow10 : DataW Unit) = Lib.tabData .u64 Lib.pow10Tab := by kernel_rfl
  rw [e] at h2
  exact Lib.tabIs_of_head gPow tPow Tryd.underlying145 Tryd.underlying123 (by kernel_rfl) (by kernel_rfl) h2
end Go.Proofs.YtpjmlgcpeebkdaaDoor.Tabs
