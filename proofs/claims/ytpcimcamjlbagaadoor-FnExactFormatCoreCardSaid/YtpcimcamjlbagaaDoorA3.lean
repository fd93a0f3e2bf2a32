/- Character sets: a byte in a set; AnyAt, ManyAt, UptoFrom. -/
import Derived.Test.YtpcimcamjlbagaaDoorAh
import Derived.Test.YtpcimcamjlbagaaDoorA1
import Derived.Test.YtpcimcamjlbagaaDoorBits
import Derived.Test.YtpcimcamjlbagaaDoorQ
namespace Go.Proofs.YtpcimcamjlbagaaDoor
set_option linter.unusedVariables false
set_option linter.unusedSimpArgs false
set_option maxRecDepth 100000
open Go.RowKit

end Go.Proofs.YtpcimcamjlbagaaDoor
