/- The table of powers of ten and the table of ASCII space, as the program's text lays them, and that they stay while a call writes nothing below its own blocks; no condition. -/
import Derived.Test.YtpjmlgcpeebkdaaDoorRows
import Derived.Lib.LaidTab
import Derived.Lib.ItoaNum
import Derived.Lib.Space
import Derived.Lib.SmallJoins
import Derived.Stop.LaidErr
import Derived.MakeChecks
set_option maxRecDepth 100000
namespace Go.Proofs.YtpjmlgcpeebkdaaDoor.Tabs
open Go.RowKit
theorem gPow : Tryd.prog.globalNamed "internal/strconv.uint64pow10" = some 4 := by kernel_rfl
theorem tPow : (Tryd.prog.globals[4]?).map (·.type) = some 145 := by kernel_rfl
theorem gSpc : Tryd.prog.globalNamed "strings.asciiSpace" = some 0 := by kernel_rfl
theorem tSpc : (Tryd.prog.globals[0]?).map (·.type) = some 87 := by kernel_rfl
structure T (w : World) : Prop where
  pow : Lib.TabIs Tryd.prog w "internal/strconv.uint64pow10" .u64 Lib.pow10Tab
  spc : Lib.TabIs Tryd.prog w "strings.asciiSpace" .u8 Lib.asciiSpaceTab
theorem T.stays {B : Nat} {w w' : World} (h : T w) (hb : Below B w w') (hB : w.heap.size ≤ B) : T w' := ⟨Joins.tab_stays gPow h.pow hb hB, Joins.tab_stays gSpc h.spc hb hB⟩
theorem T.of_laid {W : World} (h : laidMetH Tryd.prog [("math/bits.deBruijn32tab", Rows.laid_math_bits_deBruijn32tab), ("math/bits.deBruijn64tab", Rows.laid_math_bits_deBruijn64tab), ("internal/strconv.uint64pow10", Rows.laid_internal_strconv_uint64pow10), ("unicode.White_Space", Rows.laid_unicode_White_Space), ("strings.asciiSpace", Rows.laid_strings_asciiSpace)] W) : T W := by
  rw [MakeChecks.laidMetH_plain _ _ _ (by kernel_rfl)] at h
  have h2 := h.tail.tail
  have h3 := h2.tail.tail
  have e : (Rows.laid_internal_strconv_uint64pow10 : DataW Unit) = Lib.tabData .u64 Lib.pow10Tab := by kernel_rfl
  have e2 : (Rows.laid_strings_asciiSpace : DataW Unit) = Lib.tabData .u8 Lib.asciiSpaceTab := by kernel_rfl
  rw [e] at h2
  rw [e2] at h3
  exact ⟨Lib.tabIs_of_head gPow tPow Tryd.underlying145 Tryd.underlying123 (by kernel_rfl) (by kernel_rfl) h2, Lib.tabIs_of_head gSpc tSpc Tryd.underlying87 Tryd.underlying5 (by kernel_rfl) (by kernel_rfl) h3⟩
end Go.Proofs.YtpjmlgcpeebkdaaDoor.Tabs
