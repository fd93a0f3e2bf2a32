/- The laws' helpers of Core: what is left behind a datum, copies, comparison. -/
import Derived.Test.YtdjbfneniohaaaaHb
namespace Go.Proofs.Ytdjbfneniohaaaa
set_option linter.unusedVariables false
set_option linter.unusedSimpArgs false
set_option maxRecDepth 100000
open Go.RowKit

end Go.Proofs.Ytdjbfneniohaaaa
