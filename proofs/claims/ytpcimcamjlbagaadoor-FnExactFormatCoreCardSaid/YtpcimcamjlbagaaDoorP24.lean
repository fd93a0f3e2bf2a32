/- The text of a core: the reference, for every core. -/
import Derived.Test.YtpcimcamjlbagaaDoorP23
namespace Go.Proofs.YtpcimcamjlbagaaDoor
set_option linter.unusedVariables false
set_option linter.unusedSimpArgs false
set_option maxRecDepth 100000
open Go.RowKit
theorem specFC : ∀ t, FcC 5 t := TCore.ind fun k op n li t ks IH => specFC_mk k op n li t ks IH
end Go.Proofs.YtpcimcamjlbagaaDoor
