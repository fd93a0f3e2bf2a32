/- The walk of FnExactCheckUnit. -/
import Derived.Test.YtjodcciloflgbaaDoorPY7
import Derived.Test.YtjodcciloflgbaaDoorPY8
import Derived.Test.YtjodcciloflgbaaDoorPYz
import Derived.Test.YtjodcciloflgbaaDoorPYq
namespace Go.Proofs.YtjodcciloflgbaaDoor
set_option linter.unusedVariables false
set_option linter.unusedSimpArgs false
set_option maxRecDepth 100000
open Go.RowKit
theorem chkL_of {f : FuncId} (h : ChkC f) : ChkL f := by
 intro t w htab S vs hv hw
 obtain ⟨R, G, P⟩ := t
 exact h R G P S w vs htab hv hw
theorem FnExactCheckUnit_walk (t0 : TUnit) (vs0 : List Value) (w : World) (hv0 : Dat.HoldVals w (fun _ => True) t0.D vs0) (htab : Sp w) :
  Calls Tryd.prog 4 #[.agg vs0.toArray] w fun e w' => e = .returned (.bool true) ∧ Bel w w' :=
 FnExactCheckUnit_of (chkL_of (specChk_of specUnit_any)) (chkL_of (implChk_of implUnit_any)) t0 vs0 w hv0 htab
end Go.Proofs.YtjodcciloflgbaaDoor
