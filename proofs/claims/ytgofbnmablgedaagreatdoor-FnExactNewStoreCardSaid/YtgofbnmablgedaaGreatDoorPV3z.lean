/- Valid cores: the reference, for every core. -/
import Derived.Test.YtgofbnmablgedaaGreatDoorPV3a
import Derived.Test.YtgofbnmablgedaaGreatDoorPV3b
namespace Go.Proofs.YtgofbnmablgedaaGreatDoor
set_option linter.unusedVariables false
set_option linter.unusedSimpArgs false
set_option maxRecDepth 100000
open Go.RowKit
theorem l10Valid_any : ∀ t, SVld t := TCore.ind fun k op n li t ks IH => by
 by_cases k3 : k = 3
 ·
  subst k3; exact l10Valid_3 op n li t ks IH
 ·
  exact l10Valid_k k op n li k3 t ks IH
end Go.Proofs.YtgofbnmablgedaaGreatDoor
