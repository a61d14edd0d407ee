/- The tables of the library that a row lists as laid are what the walks ask for. -/
import Derived.Test.YtkjjlkkfhbfbmaaDoorQWords
import Derived.Test.YtkjjlkkfhbfbmaaDoorRows
import Derived.Stop.LaidErr
import Derived.Lib.LaidTab
import Derived.LaidMore
import Derived.MakeChecks
namespace Go.Proofs.YtkjjlkkfhbfbmaaDoor.Q
open Go Go.RowKit Go.ChangeShapes Go.Proofs
set_option maxRecDepth 100000
theorem star_ : "*" ++ "errors.errorString" = "*errors.errorString" := by decide
theorem row_err (u : TypeId) (h : Go.Proofs.Tryd.prog.typeName? 3 u = some "*errors.errorString") : u = 122 :=
  typeName_ptr_named (nm := "errors.errorString") (by rw [star_]; kernel_rfl) (by kernel_rfl) (by decide) u (by rw [star_]; exact h)
theorem tab_pow : (Rows.laid_internal_strconv_uint64pow10 : DataW Unit) = Lib.tabData .u64 Lib.pow10Tab := by kernel_rfl
theorem tab_sp : (Rows.laid_strings_asciiSpace : DataW Unit) = Lib.tabData .u8 Lib.asciiSpaceTab := by kernel_rfl
theorem Tabs.of_laid {W : World} (h : laidMetH Go.Proofs.Tryd.prog Rows.fnExactShellLineRow.laid W) : Tabs W := by
  rw [MakeChecks.laidMetH_plain _ _ _ (by kernel_rfl)] at h
  have hL : laidMet Go.Proofs.Tryd.prog [("math/bits.deBruijn32tab", Rows.laid_math_bits_deBruijn32tab), ("math/bits.deBruijn64tab", Rows.laid_math_bits_deBruijn64tab), ("internal/strconv.uint64pow10", Rows.laid_internal_strconv_uint64pow10), ("unicode/utf8.acceptRanges", Rows.laid_unicode_utf8_acceptRanges), ("strconv.ErrRange", Rows.laid_strconv_ErrRange), ("strconv.ErrSyntax", Rows.laid_strconv_ErrSyntax), ("unicode.White_Space", Rows.laid_unicode_White_Space), ("strings.asciiSpace", Rows.laid_strings_asciiSpace), ("unicode/utf8.first", Rows.laid_unicode_utf8_first)] W := h
  have h2 := hL.tail.tail
  rw [tab_pow] at h2
  have h4 := hL.tail.tail.tail.tail
  obtain ⟨a0, t0, hv0, _⟩ := laid_sentinel (g := 4) h4 (by kernel_rfl) (by kernel_rfl) Tryd.underlying53 row_err Tryd.underlying122 Tryd.underlying124 rfl rfl Tryd.underlying9 (by kernel_rfl) (by kernel_rfl)
  obtain ⟨a1, t1, hv1, _⟩ := laid_sentinel (g := 3) h4.tail (by kernel_rfl) (by kernel_rfl) Tryd.underlying53 row_err Tryd.underlying122 Tryd.underlying124 rfl rfl Tryd.underlying9 (by kernel_rfl) (by kernel_rfl)
  have h7 := h4.tail.tail.tail
  rw [tab_sp] at h7
  exact ⟨Lib.tabIs_of_head (g := 0) (by kernel_rfl) (by kernel_rfl) Tryd.underlying67 Tryd.underlying5 (by kernel_rfl) (by kernel_rfl) h7, Lib.tabIs_of_head (g := 7) (t := 126) (by kernel_rfl) (by kernel_rfl) Tryd.underlying126 (by kernel_rfl) (by kernel_rfl) (by kernel_rfl) h2,
    ⟨122, _, World.var?_cell (by kernel_rfl) hv1 0⟩, ⟨122, _, World.var?_cell (by kernel_rfl) hv0 0⟩⟩
end Go.Proofs.YtkjjlkkfhbfbmaaDoor.Q
