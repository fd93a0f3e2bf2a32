/- What the rows' lists of package-level variables give a walk. -/
import Derived.Test.YtjodcciloflgbaaDoorRows
import Derived.Test.YtjodcciloflgbaaDoorE1
namespace Go.Proofs.YtjodcciloflgbaaDoor
set_option linter.unusedVariables false
set_option linter.unusedSimpArgs false
set_option maxRecDepth 100000
open Go.RowKit

theorem sp_of {W : World} (h : laidMetH Tryd.prog [("unicode.White_Space", Rows.laid_unicode_White_Space), ("strings.asciiSpace", Rows.laid_strings_asciiSpace)] W) : Sp W :=
  Lib.tabIs_of_head (g := 0) (t := 106) (e := 5) (n := 256) (rest := []) (by kernel_rfl) (by kernel_rfl) Tryd.underlying106 Tryd.underlying5 (by kernel_rfl) (by kernel_rfl)
    (laidMet.tail (x := ("unicode.White_Space", Rows.laid_unicode_White_Space)) h)

end Go.Proofs.YtjodcciloflgbaaDoor
