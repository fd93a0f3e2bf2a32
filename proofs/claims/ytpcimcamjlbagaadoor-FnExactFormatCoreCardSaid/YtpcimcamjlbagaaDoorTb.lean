/- The five tables together. -/
import Derived.Test.YtpcimcamjlbagaaDoorRows
import Derived.Test.YtpcimcamjlbagaaDoorE0
import Derived.Test.YtpcimcamjlbagaaDoorE2
namespace Go.Proofs.YtpcimcamjlbagaaDoor
set_option linter.unusedVariables false
set_option linter.unusedSimpArgs false
set_option maxRecDepth 100000
open Go.RowKit

def Tabs (w : World) : Prop := Sp w ∧ P10 w
theorem tabs_of {W : World} (h : laidMetH Tryd.prog [("math/bits.deBruijn32tab", Rows.laid_math_bits_deBruijn32tab), ("math/bits.deBruijn64tab", Rows.laid_math_bits_deBruijn64tab), ("internal/strconv.uint64pow10", Rows.laid_internal_strconv_uint64pow10), ("unicode.White_Space", Rows.laid_unicode_White_Space), ("strings.asciiSpace", Rows.laid_strings_asciiSpace)] W) : Tabs W := by
  have h : laidMet Tryd.prog [("math/bits.deBruijn32tab", Rows.laid_math_bits_deBruijn32tab), ("math/bits.deBruijn64tab", Rows.laid_math_bits_deBruijn64tab), ("internal/strconv.uint64pow10", Rows.laid_internal_strconv_uint64pow10), ("unicode.White_Space", Rows.laid_unicode_White_Space), ("strings.asciiSpace", Rows.laid_strings_asciiSpace)] W := h
  refine ⟨?_, ?_⟩
  · exact Lib.tabIs_of_head (g := 0) (t := 45) (e := 5) (n := 256) (rest := []) (by kernel_rfl) (by kernel_rfl) Tryd.underlying45 Tryd.underlying5 (by kernel_rfl) (by kernel_rfl) h.tail.tail.tail.tail
  · exact Lib.tabIs_of_head (g := 2) (t := 91) (e := 81) (n := 20) (rest := [("unicode.White_Space", Rows.laid_unicode_White_Space), ("strings.asciiSpace", Rows.laid_strings_asciiSpace)]) (by kernel_rfl) (by kernel_rfl) Tryd.underlying91 Tryd.underlying81 (by kernel_rfl) (by kernel_rfl) h.tail.tail
theorem Tabs.on {w w' : World} (h : Tabs w) (hb : Bel w w') : Tabs w' := ⟨h.1.on hb, h.2.on hb⟩
end Go.Proofs.YtpcimcamjlbagaaDoor
