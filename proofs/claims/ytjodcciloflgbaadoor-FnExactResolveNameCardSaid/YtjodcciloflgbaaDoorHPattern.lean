/- The laws' helpers of Pattern: what is left behind a datum, copies, comparison. -/
import Derived.Test.YtjodcciloflgbaaDoorHb
namespace Go.Proofs.YtjodcciloflgbaaDoor
set_option linter.unusedVariables false
set_option linter.unusedSimpArgs false
set_option maxRecDepth 100000
open Go.RowKit

end Go.Proofs.YtjodcciloflgbaaDoor
