/- What the rows' lists of package-level variables give a walk. -/
import Derived.Test.YtpcimcamjlbagaaDoorRows
import Derived.Test.YtpcimcamjlbagaaDoorE1
namespace Go.Proofs.YtpcimcamjlbagaaDoor
set_option linter.unusedVariables false
set_option linter.unusedSimpArgs false
set_option maxRecDepth 100000
open Go.RowKit

theorem sp_of {W : World} (h : laidMetH Tryd.prog [("unicode.White_Space", Rows.laid_unicode_White_Space), ("strings.asciiSpace", Rows.laid_strings_asciiSpace)] W) : Sp W :=
  Lib.tabIs_of_head (g := 0) (t := 45) (e := 5) (n := 256) (rest := []) (by kernel_rfl) (by kernel_rfl) Tryd.underlying45 Tryd.underlying5 (by kernel_rfl) (by kernel_rfl)
    (laidMet.tail (x := ("unicode.White_Space", Rows.laid_unicode_White_Space)) h)

/-- The table that strconv.Itoa reads. -/
def P10 (w : World) : Prop := Lib.TabIs Tryd.prog w "internal/strconv.uint64pow10" .u64 Lib.pow10Tab

theorem p10_of {W : World} (h : laidMetH Tryd.prog [("math/bits.deBruijn32tab", Rows.laid_math_bits_deBruijn32tab), ("math/bits.deBruijn64tab", Rows.laid_math_bits_deBruijn64tab), ("internal/strconv.uint64pow10", Rows.laid_internal_strconv_uint64pow10)] W) : P10 W := by
  have h : laidMet Tryd.prog [("math/bits.deBruijn32tab", Rows.laid_math_bits_deBruijn32tab), ("math/bits.deBruijn64tab", Rows.laid_math_bits_deBruijn64tab), ("internal/strconv.uint64pow10", Rows.laid_internal_strconv_uint64pow10)] W := h
  exact Lib.tabIs_of_head (g := 2) (t := 91) (e := 81) (n := 20) (rest := []) (by kernel_rfl) (by kernel_rfl) Tryd.underlying91 Tryd.underlying81 (by kernel_rfl) (by kernel_rfl) h.tail.tail

theorem P10.on {w w' : World} (h : P10 w) (hb : Bel w w') : P10 w' := Joins.tab_stays (g := 2) (by kernel_rfl) h hb (Nat.le_refl _)

end Go.Proofs.YtpcimcamjlbagaaDoor
