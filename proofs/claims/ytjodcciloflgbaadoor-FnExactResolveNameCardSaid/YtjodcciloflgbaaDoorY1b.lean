/- Binary operators: the reference. -/
import Derived.Test.YtjodcciloflgbaaDoorY1m
import Derived.Test.YtjodcciloflgbaaDoorY1h
namespace Go.Proofs.YtjodcciloflgbaaDoor
set_option linter.unusedVariables false
set_option linter.unusedSimpArgs false
set_option maxRecDepth 100000
open Go.RowKit
theorem specBinaryLevel_any (x : ByteArray) (w : World) : Calls Tryd.prog 95 #[.string x] w (BinPost x w) := by
  by_cases h : x ∈ binAll
  · exact specBin_hit x w h
  · exact specBin_miss x w h
end Go.Proofs.YtjodcciloflgbaaDoor
