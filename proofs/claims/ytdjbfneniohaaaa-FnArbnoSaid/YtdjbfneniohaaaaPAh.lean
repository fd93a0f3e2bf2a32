/- The laws' own helpers on values: sizes, copies, comparisons. -/
import Derived.Test.YtdjbfneniohaaaaPB
import Derived.Deep.QuietTactic
import Derived.BigQuiet
namespace Go.Proofs.Ytdjbfneniohaaaa
set_option linter.unusedVariables false
set_option linter.unusedSimpArgs false
set_option maxRecDepth 100000
open Go.RowKit
set_option maxHeartbeats 400000 in
theorem specHasByte_any (lo hi : Int) (b : Nat) (w : World) (hb : b < 256) :
  Calls Try.prog 69 #[.agg #[.int .i64 lo, .int .i64 hi], .int .u8 b] w fun e w' => e = .returned (.bool (hasBit lo hi b)) ∧ Bel w w' := by
 have B1 := hide (bit_and lo b)
 have B2 := hide (bit_and hi (b - 64))
 go_enter Try.func69, Try.ntmps69
 go_wp2
 all_goals
  go_returns
  go_light
  refine ⟨?_, bl⟩
  have B1 := B1.out
  have B2 := B2.out
  simp only [Array.getD_eq_getD_getElem?, List.getElem?_toArray, List.getElem?_cons_succ, List.getElem?_cons_zero, Option.getD_some]
  unfold hasBit
  grind
set_option maxHeartbeats 400000 in
theorem implHasByte_any (lo hi : Int) (b : Nat) (w : World) (hb : b < 256) :
  Calls Try.prog 15 #[.agg #[.int .i64 lo, .int .i64 hi], .int .u8 b] w fun e w' => e = .returned (.bool (hasBit lo hi b)) ∧ Bel w w' := by
 have B1 := hide (bit_shift lo b)
 have B2 := hide (bit_shift hi (b - 64))
 go_enter Try.func15, Try.ntmps15
 go_wp2
 all_goals
  go_returns
  go_light
  refine ⟨?_, bl⟩
  have B1 := B1.out
  have B2 := B2.out
  simp only [Array.getD_eq_getD_getElem?, List.getElem?_toArray, List.getElem?_cons_succ, List.getElem?_cons_zero, Option.getD_some]
  unfold hasBit
  grind
end Go.Proofs.Ytdjbfneniohaaaa
