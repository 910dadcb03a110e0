/- The table of powers of ten and the two sentinels of strconv, as the program's text lays them, and that they stay while a call writes nothing below its own blocks; no condition. -/
import Derived.Test.YtpjmlgcpeebkdaaDoorRows
import Derived.Lib.LaidTab
import Derived.Lib.ItoaNum
import Derived.Lib.SmallJoins
import Derived.Stop.LaidErr
import Derived.MakeChecks
set_option maxRecDepth 100000
namespace Go.Proofs.YtpjmlgcpeebkdaaDoor.Tabs
open Go.RowKit
theorem gPow : Tryd.prog.globalNamed "internal/strconv.uint64pow10" = some 4 := by kernel_rfl
theorem tPow : (Tryd.prog.globals[4]?).map (·.type) = some 145 := by kernel_rfl
theorem gSyn : Tryd.prog.globalNamed "strconv.ErrSyntax" = some 2 := by kernel_rfl
theorem tSyn : (Tryd.prog.globals[2]?).map (·.type) = some 75 := by kernel_rfl
theorem gRng : Tryd.prog.globalNamed "strconv.ErrRange" = some 3 := by kernel_rfl
theorem tRng : (Tryd.prog.globals[3]?).map (·.type) = some 75 := by kernel_rfl
theorem c152 : Tryd.prog.cellsOf 152 = 1 := by kernel_rfl
theorem c9 : Tryd.prog.cellsOf 9 = 1 := by kernel_rfl
theorem star : "*" ++ "errors.errorString" = "*errors.errorString" := by decide
theorem row150 (u : TypeId) (h : Tryd.prog.typeName? 3 u = some "*errors.errorString") : u = 150 :=
  typeName_ptr_named (nm := "errors.errorString") (by rw [star]; kernel_rfl) (by kernel_rfl) (by decide) u (by rw [star]; exact h)
def Ifc (w : World) (g : Nat) : Prop := ∃ ev, w.cell? ⟨g, 0, none⟩ = some ev ∧ (ev = .nilIface ∨ ∃ te pe, ev = .iface te pe)
structure T (w : World) : Prop where
  pow : Lib.TabIs Tryd.prog w "internal/strconv.uint64pow10" .u64 Lib.pow10Tab
  syn : Ifc w 2
  rng : Ifc w 3
theorem Ifc.stays {B g : Nat} {w w' : World} (h : Ifc w g) (hb : Below B w w') (hB : w.heap.size ≤ B) : Ifc w' g := by
  obtain ⟨ev, hc, he⟩ := h
  exact ⟨ev, (hb.cell (p := ⟨g, 0, none⟩) (Nat.lt_of_lt_of_le (World.block_lt_of_cell? _ _ hc) hB)).trans hc, he⟩
theorem T.stays {B : Nat} {w w' : World} (h : T w) (hb : Below B w w') (hB : w.heap.size ≤ B) : T w' :=
  ⟨Joins.tab_stays gPow h.pow hb hB, h.syn.stays hb hB, h.rng.stays hb hB⟩
theorem T.of_laid {W : World} (h : laidMetH Tryd.prog [("math/bits.deBruijn32tab", Rows.laid_math_bits_deBruijn32tab), ("math/bits.deBruijn64tab", Rows.laid_math_bits_deBruijn64tab), ("internal/strconv.uint64pow10", Rows.laid_internal_strconv_uint64pow10), ("strconv.ErrRange", Rows.laid_strconv_ErrRange), ("strconv.ErrSyntax", Rows.laid_strconv_ErrSyntax)] W) : T W := by
  rw [MakeChecks.laidMetH_plain _ _ _ (by kernel_rfl)] at h
  have h2 := h.tail.tail
  have h3 := h2.tail
  have h4 := h3.tail
  have e : (Rows.laid_internal_strconv_uint64pow10 : DataW Unit) = Lib.tabData .u64 Lib.pow10Tab := by kernel_rfl
  rw [e] at h2
  obtain ⟨a0, s0, hv0, _⟩ := laid_sentinel h3 gRng tRng Tryd.underlying75 row150 Tryd.underlying150 Tryd.underlying152 rfl rfl Tryd.underlying9 c152 c9
  obtain ⟨a1, s1, hv1, _⟩ := laid_sentinel h4 gSyn tSyn Tryd.underlying75 row150 Tryd.underlying150 Tryd.underlying152 rfl rfl Tryd.underlying9 c152 c9
  exact ⟨Lib.tabIs_of_head gPow tPow Tryd.underlying145 Tryd.underlying123 (by kernel_rfl) (by kernel_rfl) h2, ⟨_, by simpa using World.var?_cell gSyn hv1 0, .inr ⟨_, _, rfl⟩⟩, ⟨_, by simpa using World.var?_cell gRng hv0 0, .inr ⟨_, _, rfl⟩⟩⟩
end Go.Proofs.YtpjmlgcpeebkdaaDoor.Tabs
