/- Character sets: a byte in a set; AnyAt, ManyAt, UptoFrom. -/
import Derived.Test.YtficlopcolglnaaDoorAh
import Derived.Test.YtficlopcolglnaaDoorA1
import Derived.Test.YtficlopcolglnaaDoorBits
import Derived.Test.YtficlopcolglnaaDoorQ
namespace Go.Proofs.YtficlopcolglnaaDoor
set_option linter.unusedVariables false
set_option linter.unusedSimpArgs false
set_option maxRecDepth 100000
open Go.RowKit

set_option maxHeartbeats 400000 in
theorem specHasByte_any (lo hi : Int) (b : Nat) (w : World) (hb : b < 256) :
    Calls Tryd.prog 75 #[.agg #[.int .i64 lo, .int .i64 hi], .int .u8 b] w fun e w' => e = .returned (.bool (hasB lo hi b)) ∧ Bel w w' := by
  have B1 := hide (bit_and lo b)
  have B2 := hide (bit_and hi (b - 64))
  go_enter Tryd.func75, Tryd.ntmps75
  go_wp2
  all_goals
    go_returns
    go_light
    refine ⟨?_, (by repeat' (first | exact Bel.refl _ | with_reducible assumption | refine Bel.trans ?_ (by with_reducible assumption) | refine Bel.alloc ?_ _ | refine Bel.drew ?_ | refine Bel.drewN ?_ _ | refine Bel.set ?_ ?_ _ | (simp; done) | (simp; omega)))⟩
    have B1 := B1.out
    have B2 := B2.out
    simp only [Array.getD_eq_getD_getElem?, List.getElem?_toArray, List.getElem?_cons_succ, List.getElem?_cons_zero, Option.getD_some]
    unfold hasB
    grind
set_option maxHeartbeats 400000 in
theorem implHasByte_any (lo hi : Int) (b : Nat) (w : World) (hb : b < 256) :
    Calls Tryd.prog 77 #[.agg #[.int .i64 lo, .int .i64 hi], .int .u8 b] w fun e w' => e = .returned (.bool (hasB lo hi b)) ∧ Bel w w' := by
  have B1 := hide (bit_shift lo b)
  have B2 := hide (bit_shift hi (b - 64))
  go_enter Tryd.func77, Tryd.ntmps77
  go_wp2
  all_goals
    go_returns
    go_light
    refine ⟨?_, (by repeat' (first | exact Bel.refl _ | with_reducible assumption | refine Bel.trans ?_ (by with_reducible assumption) | refine Bel.alloc ?_ _ | refine Bel.drew ?_ | refine Bel.drewN ?_ _ | refine Bel.set ?_ ?_ _ | (simp; done) | (simp; omega)))⟩
    have B1 := B1.out
    have B2 := B2.out
    simp only [Array.getD_eq_getD_getElem?, List.getElem?_toArray, List.getElem?_cons_succ, List.getElem?_cons_zero, Option.getD_some]
    unfold hasB
    grind
end Go.Proofs.YtficlopcolglnaaDoor
