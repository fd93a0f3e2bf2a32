/- What the law of FormatPattern wants of the two sides. -/
import Derived.Test.YtmikipcfepgogaaDoorP17
import Derived.Test.YtmikipcfepgogaaDoorP18
import Derived.Test.YtmikipcfepgogaaDoorPc
namespace Go.Proofs.YtmikipcfepgogaaDoor
set_option linter.unusedVariables false
set_option linter.unusedSimpArgs false
set_option maxRecDepth 100000
open Go.RowKit

theorem specFormatPattern_law (t : TPattern) (S : Nat → Prop) (w : World) (vs : List Value) (htab : P10 w) (hv : Dat.HoldVals w S t.D vs) (hw : Dat.wtL t.D ≤ 1048576) :
    Calls Tryd.prog 7 #[.agg vs.toArray] w fun e w' => e = .returned (.string t.fmt) ∧ Bel w w' := specFormatPattern_any t S w vs htab hv (by have := t.cnt_le; omega)
theorem implFormatPattern_law (t : TPattern) (S : Nat → Prop) (w : World) (vs : List Value) (htab : P10 w) (hv : Dat.HoldVals w S t.D vs) (hw : Dat.wtL t.D ≤ 1048576) :
    Calls Tryd.prog 9 #[.agg vs.toArray] w fun e w' => e = .returned (.string t.fmt) ∧ Bel w w' := implFormatPattern_any t S w vs htab hv (by have := t.cnt_le; omega)
end Go.Proofs.YtmikipcfepgogaaDoor
