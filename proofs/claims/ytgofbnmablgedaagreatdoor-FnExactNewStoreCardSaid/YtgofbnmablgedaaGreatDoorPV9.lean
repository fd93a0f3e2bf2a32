/- Valid programs: what the law of IsValidProgram wants of the two sides. -/
import Derived.Test.YtgofbnmablgedaaGreatDoorPV7
import Derived.Test.YtgofbnmablgedaaGreatDoorPV8
import Derived.Test.YtgofbnmablgedaaGreatDoorPHCore
namespace Go.Proofs.YtgofbnmablgedaaGreatDoor
set_option linter.unusedVariables false
set_option linter.unusedSimpArgs false
set_option maxRecDepth 100000
open Go.RowKit
theorem specIsValidProgram_law (t : TProgram) (S : Nat → Prop) (w : World) (vs : List Value) (htab : Sp w) (hv : Dat.HoldVals w S t.D vs) (hw : Dat.wtL t.D ≤ 1048576) :
  Calls Tryz.prog 16 #[.agg vs.toArray] w fun e w' => e = .returned (.bool (progB t)) ∧ Bel w w' := specProg_any t S w vs htab hv hw
theorem implIsValidProgram_law (t : TProgram) (S : Nat → Prop) (w : World) (vs : List Value) (htab : Sp w) (hv : Dat.HoldVals w S t.D vs) (hw : Dat.wtL t.D ≤ 1048576) :
  Calls Tryz.prog 22 #[.agg vs.toArray] w fun e w' => e = .returned (.bool (progB t)) ∧ Bel w w' := implProg_any t S w vs htab hv hw
end Go.Proofs.YtgofbnmablgedaaGreatDoor
