/- The table of ASCII space, as the program's text lays it, and that it stays while a call writes nothing below its own blocks; no condition. -/
import Derived.Test.YtpjmlgcpeebkdaaDoorRows
import Derived.Lib.LaidTab
import Derived.Lib.Space
import Derived.Lib.SmallJoins
import Derived.Stop.LaidErr
import Derived.MakeChecks
set_option maxRecDepth 100000
namespace Go.Proofs.YtpjmlgcpeebkdaaDoor.Tabs
open Go.RowKit
theorem gSpc : Tryd.prog.globalNamed "strings.asciiSpace" = some 0 := by kernel_rfl
theorem tSpc : (Tryd.prog.globals[0]?).map (·.type) = some 87 := by kernel_rfl
structure T (w : World) : Prop where
  spc : Lib.TabIs Tryd.prog w "strings.asciiSpace" .u8 Lib.asciiSpaceTab
theorem T.stays {B : Nat} {w w' : World} (h : T w) (hb : Below B w w') (hB : w.heap.size ≤ B) : T w' := ⟨Joins.tab_stays gSpc h.spc hb hB⟩
theorem T.of_laid {W : World} (h : laidMetH Tryd.prog [("unicode.White_Space", Rows.laid_unicode_White_Space), ("strings.asciiSpace", Rows.laid_strings_asciiSpace)] W) : T W := by
  rw [MakeChecks.laidMetH_plain _ _ _ (by kernel_rfl)] at h
  have h2 := h.tail
  have e : (Rows.laid_strings_asciiSpace : DataW Unit) = Lib.tabData .u8 Lib.asciiSpaceTab := by kernel_rfl
  rw [e] at h2
  exact ⟨Lib.tabIs_of_head gSpc tSpc Tryd.underlying87 Tryd.underlying5 (by kernel_rfl) (by kernel_rfl) h2⟩
end Go.Proofs.YtpjmlgcpeebkdaaDoor.Tabs
