/- The laws' own helpers on values: sizes, copies, comparisons. -/
import Derived.Test.YtdjbfneniohaaaaB
import Derived.Deep.QuietTactic
import Derived.BigQuiet
namespace Go.Proofs.Ytdjbfneniohaaaa
set_option linter.unusedVariables false
set_option linter.unusedSimpArgs false
set_option maxRecDepth 100000
open Go.RowKit

set_option maxHeartbeats 400000 in
theorem toCset_any (lo hi : Int) (w : World) :
    Calls Try.prog 38 #[.agg #[.int .i64 lo, .int .i64 hi]] w fun e w' => e = .returned (.agg #[.int .i64 lo, .int .i64 hi]) ∧ Bel w w' := by
  go_enter Try.func38, Try.ntmps38
  go_wp2
  go_returns
  exact ⟨rfl, bl⟩
set_option maxHeartbeats 400000 in
theorem eqCset_any (lo hi lo' hi' : Int) (w : World) :
    Calls Try.prog 40 #[.agg #[.int .i64 lo, .int .i64 hi], .agg #[.int .i64 lo', .int .i64 hi']] w fun e w' => e = .returned (.bool (decide (lo = lo') && decide (hi = hi'))) ∧ Bel w w' := by
  go_enter Try.func40, Try.ntmps40
  go_wp2
  all_goals
    go_returns
    go_light
    refine ⟨?_, bl⟩
    simp_all

def isRef (k : Int) : Bool := decide (13 ≤ k) && decide (k ≤ 18)
end Go.Proofs.Ytdjbfneniohaaaa
