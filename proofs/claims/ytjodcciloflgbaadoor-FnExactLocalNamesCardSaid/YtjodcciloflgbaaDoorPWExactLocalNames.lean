/- The walk of FnExactLocalNames. -/
import Derived.Test.YtjodcciloflgbaaDoorPY7
import Derived.Test.YtjodcciloflgbaaDoorPY8
import Derived.Test.YtjodcciloflgbaaDoorPYo
namespace Go.Proofs.YtjodcciloflgbaaDoor
set_option linter.unusedVariables false
set_option linter.unusedSimpArgs false
set_option maxRecDepth 100000
open Go.RowKit
theorem FnExactLocalNames_walk (t0 : TUnit) (vs0 : List Value) (n1 : Int) (w : World) (hv0 : Dat.HoldVals w (fun _ => True) t0.D vs0) (hn1 : InI n1) (htab : Sp w) :
  Calls Tryd.prog 5 #[.agg vs0.toArray, .int .i64 n1] w fun e w' => e = .returned (.bool true) ∧ Bel w w' :=
 FnExactLocalNames_of (specLocT_of specUnit_any) (implLocT_of implUnit_any) t0 vs0 n1 w hv0 hn1 htab
end Go.Proofs.YtjodcciloflgbaaDoor
