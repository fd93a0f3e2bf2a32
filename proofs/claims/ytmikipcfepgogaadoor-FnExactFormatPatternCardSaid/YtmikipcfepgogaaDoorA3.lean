/- Character sets: a byte in a set; AnyAt, ManyAt, UptoFrom. -/
import Derived.Test.YtmikipcfepgogaaDoorAh
import Derived.Test.YtmikipcfepgogaaDoorA1
import Derived.Test.YtmikipcfepgogaaDoorBits
import Derived.Test.YtmikipcfepgogaaDoorQ
namespace Go.Proofs.YtmikipcfepgogaaDoor
set_option linter.unusedVariables false
set_option linter.unusedSimpArgs false
set_option maxRecDepth 100000
open Go.RowKit

set_option maxHeartbeats 400000 in
theorem specHasByte_any (lo hi : Int) (b : Nat) (w : World) (hb : b < 256) :
    Calls Tryd.prog 76 #[.agg #[.int .i64 lo, .int .i64 hi], .int .u8 b] w fun e w' => e = .returned (.bool (hasB lo hi b)) ∧ Bel w w' := by
  have B1 := hide (bit_and lo b)
  have B2 := hide (bit_and hi (b - 64))
  go_enter Tryd.func76, Tryd.ntmps76
  go_wp2
  all_goals
    go_returns
    go_light
    refine ⟨?_, (by repeat' (first | with_reducible exact Bel.refl _ | with_reducible assumption | with_reducible refine Bel.set ?_ ?_ _ | with_reducible refine Bel.alloc ?_ _ | with_reducible refine Bel.drew ?_ | with_reducible refine Bel.drewN ?_ _ | with_reducible refine Bel.trans ?_ (by with_reducible assumption) | (simp; done) | (simp; omega) | refine Bel.alloc ?_ _ | refine Bel.drew ?_ | refine Bel.drewN ?_ _ | refine Bel.set ?_ ?_ _))⟩
    have B1 := B1.out
    have B2 := B2.out
    simp only [Array.getD_eq_getD_getElem?, List.getElem?_toArray, List.getElem?_cons_succ, List.getElem?_cons_zero, Option.getD_some]
    unfold hasB
    grind
set_option maxHeartbeats 400000 in
theorem implHasByte_any (lo hi : Int) (b : Nat) (w : World) (hb : b < 256) :
    Calls Tryd.prog 78 #[.agg #[.int .i64 lo, .int .i64 hi], .int .u8 b] w fun e w' => e = .returned (.bool (hasB lo hi b)) ∧ Bel w w' := by
  have B1 := hide (bit_shift lo b)
  have B2 := hide (bit_shift hi (b - 64))
  go_enter Tryd.func78, Tryd.ntmps78
  go_wp2
  all_goals
    go_returns
    go_light
    refine ⟨?_, (by repeat' (first | with_reducible exact Bel.refl _ | with_reducible assumption | with_reducible refine Bel.set ?_ ?_ _ | with_reducible refine Bel.alloc ?_ _ | with_reducible refine Bel.drew ?_ | with_reducible refine Bel.drewN ?_ _ | with_reducible refine Bel.trans ?_ (by with_reducible assumption) | (simp; done) | (simp; omega) | refine Bel.alloc ?_ _ | refine Bel.drew ?_ | refine Bel.drewN ?_ _ | refine Bel.set ?_ ?_ _))⟩
    have B1 := B1.out
    have B2 := B2.out
    simp only [Array.getD_eq_getD_getElem?, List.getElem?_toArray, List.getElem?_cons_succ, List.getElem?_cons_zero, Option.getD_some]
    unfold hasB
    grind
end Go.Proofs.YtmikipcfepgogaaDoor
