/- The text of a core: both sides, for every core; what the law of FormatCore wants. -/
import Derived.Test.YtpcimcamjlbagaaDoorP24
import Derived.Test.YtpcimcamjlbagaaDoorP26
import Derived.Test.YtpcimcamjlbagaaDoorP4C
import Derived.Test.YtpcimcamjlbagaaDoorTb
namespace Go.Proofs.YtpcimcamjlbagaaDoor
set_option linter.unusedVariables false
set_option linter.unusedSimpArgs false
set_option maxRecDepth 100000
open Go.RowKit

theorem implFC : ∀ t, FcC 7 t := TCore.ind fun k op n li t ks IH => implFC_mk k op n li t ks IH
theorem specFormatCore_law (t : TCore) (S : Nat → Prop) (w : World) (vs : List Value) (htab : Tabs w) (hv : Dat.HoldVals w S t.D vs) (hw : Dat.wtL t.D ≤ 1048576) :
    Calls Tryd.prog 5 #[.agg vs.toArray] w fun e w' => e = .returned (.string t.fmt) ∧ Bel w w' := specFC t S w vs htab.1 htab.2 hv (by have := t.cnt_le; omega)
theorem implFormatCore_law (t : TCore) (S : Nat → Prop) (w : World) (vs : List Value) (htab : Tabs w) (hv : Dat.HoldVals w S t.D vs) (hw : Dat.wtL t.D ≤ 1048576) :
    Calls Tryd.prog 7 #[.agg vs.toArray] w fun e w' => e = .returned (.string t.fmt) ∧ Bel w w' := implFC t S w vs htab.1 htab.2 hv (by have := t.cnt_le; omega)
end Go.Proofs.YtpcimcamjlbagaaDoor
