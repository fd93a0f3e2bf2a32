/- The laws' own helpers on values: sizes, copies, comparisons. -/
import Derived.Test.YtebbpcgiacckfaaDoorPB
import Derived.Deep.QuietTactic
import Derived.BigQuiet
import Derived.Deep.RegionHeld3
import Derived.StillTailTactics
namespace Go.Proofs.YtebbpcgiacckfaaDoor
set_option linter.unusedVariables false
set_option linter.unusedSimpArgs false
set_option maxRecDepth 100000
open Go.RowKit
def VVal.eqB (a b : VVal) : Bool := decide (a.k = b.k) && decide (a.n = b.n) && decide (a.i = b.i) && decide (a.t = b.t) && decide (a.lo = b.lo) && decide (a.hi = b.hi)
theorem VVal.eqB_self (a : VVal) : a.eqB a = true := by simp [VVal.eqB]
set_option maxHeartbeats 1000000 in
theorem eqValue_any (a b : VVal) (w : World) :
  Calls Tryd.prog 18 #[a.val, b.val] w fun e w' => e = .returned (.bool (a.eqB b)) ∧ Bel w w' := by
 obtain ⟨k, n, i, t, lo, hi⟩ := a
 obtain ⟨k', n', i', t', lo', hi'⟩ := b
 simp only [VVal.val, VVal.eqB]
 go_enter Tryd.func18, Tryd.ntmps18
 go_wp2
 all_goals
  go_returns
  go_light
  refine ⟨?_, bl⟩
  simp_all [ba_eq]
end Go.Proofs.YtebbpcgiacckfaaDoor
namespace Go.Proofs.YtebbpcgiacckfaaDoor
set_option linter.unusedVariables false
set_option linter.unusedSimpArgs false
set_option maxRecDepth 100000
open Go.RowKit
def VVal.zero : VVal := ⟨0, 0, 0, ByteArray.empty, 0, 0⟩
end Go.Proofs.YtebbpcgiacckfaaDoor
