/- UnaryValue, both sides. -/
import Derived.Test.YtmikipcfepgogaaDoorE15
import Derived.Test.YtmikipcfepgogaaDoorA7b
import Derived.Test.YtmikipcfepgogaaDoorBox
namespace Go.Proofs.YtmikipcfepgogaaDoor
set_option linter.unusedVariables false
set_option linter.unusedSimpArgs false
set_option maxRecDepth 100000
open Go.RowKit

def cmpl (x : Int) : Int := bits .xor .i64 (-1) x
/-- What UnaryValue returns for a value that is well formed. -/
def unV (op : Int) (v : VVal) : VVal := if op = 6 then (if tcB v then VVal.ofSet (cmpl (tcLo v)) (cmpl (tcHi v)) else VVal.zero) else if tiB v then VVal.ofInt (if op = 1 then wrap64 (-tiN v) else tiN v) else VVal.zero
def unC (op : Int) (v : VVal) : Int := if op = 6 then (if tcB v then 0 else 104) else if tiB v then 0 else 101
def uBad (op : Int) (v : VVal) : Bool := !(decide (op = 1) || decide (op = 2) || decide (op = 6)) || !wellB v
def unaV (op : Int) (v : VVal) : VVal := if uBad op v then VVal.zero else unV op v
def unaC (op : Int) (v : VVal) : Int := if uBad op v then 205 else unC op v

set_option maxHeartbeats 400000 in
theorem l11Cset_any (lo hi : Int) (w : World) :
    Calls Tryd.prog 60 #[.agg #[.int .i64 lo, .int .i64 hi]] w fun e w' => e = .returned (.agg #[.int .i64 3, .int .i64 0, .int .i64 0, .string ByteArray.empty, .int .i64 lo, .int .i64 hi]) ∧ Bel w w' := by
  go_enter Tryd.func60, Tryd.ntmps60
  go_wp2
  go_returns
  exact ⟨rfl, (by repeat' (first | with_reducible exact Bel.refl _ | with_reducible assumption | with_reducible refine Bel.set ?_ ?_ _ | with_reducible refine Bel.alloc ?_ _ | with_reducible refine Bel.drew ?_ | with_reducible refine Bel.drewN ?_ _ | with_reducible refine Bel.trans ?_ (by with_reducible assumption) | (simp; done) | (simp; omega) | refine Bel.alloc ?_ _ | refine Bel.drew ?_ | refine Bel.drewN ?_ _ | refine Bel.set ?_ ?_ _))⟩
theorem l11Int_ex (n : Int) (w : World) :
    Calls Tryd.prog 86 #[.int .i64 n] w fun e w' => e = .returned (.agg #[.int .i64 1, .int .i64 n, .int .i64 0, .string ByteArray.empty, .int .i64 0, .int .i64 0]) ∧ Bel w w' := l11Int_any n w

end Go.Proofs.YtmikipcfepgogaaDoor
