/- The laws' own helpers on values: sizes, copies, comparisons. -/
import Derived.Test.YtjodcciloflgbaaDoorB
import Derived.Deep.QuietTactic
import Derived.BigQuiet
namespace Go.Proofs.YtjodcciloflgbaaDoor
set_option linter.unusedVariables false
set_option linter.unusedSimpArgs false
set_option maxRecDepth 100000
open Go.RowKit


def isRef (k : Int) : Bool := decide (13 ≤ k) && decide (k ≤ 18)
end Go.Proofs.YtjodcciloflgbaaDoor
