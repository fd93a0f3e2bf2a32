/- The laws' own helpers on values: sizes, copies, comparisons. -/
import Derived.Test.YtmikipcfepgogaaDoorB
import Derived.Deep.QuietTactic
import Derived.BigQuiet
namespace Go.Proofs.YtmikipcfepgogaaDoor
set_option linter.unusedVariables false
set_option linter.unusedSimpArgs false
set_option maxRecDepth 100000
open Go.RowKit

set_option maxHeartbeats 400000 in
theorem toCset_any (lo hi : Int) (w : World) :
    Calls Tryd.prog 26 #[.agg #[.int .i64 lo, .int .i64 hi]] w fun e w' => e = .returned (.agg #[.int .i64 lo, .int .i64 hi]) ∧ Bel w w' := by
  go_enter Tryd.func26, Tryd.ntmps26
  go_wp2
  go_returns
  exact ⟨rfl, (by repeat' (first | with_reducible exact Bel.refl _ | with_reducible assumption | with_reducible refine Bel.set ?_ ?_ _ | with_reducible refine Bel.alloc ?_ _ | with_reducible refine Bel.drew ?_ | with_reducible refine Bel.drewN ?_ _ | with_reducible refine Bel.trans ?_ (by with_reducible assumption) | (simp; done) | (simp; omega) | refine Bel.alloc ?_ _ | refine Bel.drew ?_ | refine Bel.drewN ?_ _ | refine Bel.set ?_ ?_ _))⟩
set_option maxHeartbeats 400000 in
theorem eqCset_any (lo hi lo' hi' : Int) (w : World) :
    Calls Tryd.prog 32 #[.agg #[.int .i64 lo, .int .i64 hi], .agg #[.int .i64 lo', .int .i64 hi']] w fun e w' => e = .returned (.bool (decide (lo = lo') && decide (hi = hi'))) ∧ Bel w w' := by
  go_enter Tryd.func32, Tryd.ntmps32
  go_wp2
  all_goals
    go_returns
    go_light
    refine ⟨?_, (by repeat' (first | with_reducible exact Bel.refl _ | with_reducible assumption | with_reducible refine Bel.set ?_ ?_ _ | with_reducible refine Bel.alloc ?_ _ | with_reducible refine Bel.drew ?_ | with_reducible refine Bel.drewN ?_ _ | with_reducible refine Bel.trans ?_ (by with_reducible assumption) | (simp; done) | (simp; omega) | refine Bel.alloc ?_ _ | refine Bel.drew ?_ | refine Bel.drewN ?_ _ | refine Bel.set ?_ ?_ _))⟩
    simp_all
/-- What is left behind a text. -/
def szV (t : ByteArray) (left : Int) : Int := if left < t.size then -1 else left - t.size
theorem szV_no (t : ByteArray) (h : 1048576 < t.size) : szV t 1048576 = -1 := by unfold szV; rw [if_pos (by omega)]
theorem szV_yes (t : ByteArray) (h : t.size ≤ 1048576) : szV t 1048576 = 1048576 - t.size := by unfold szV; rw [if_neg (by omega)]
set_option maxHeartbeats 400000 in
theorem szValue_any (v : VVal) (left : Int) (w : World) (h0 : 0 ≤ left) (h1 : left ≤ 1048576) (ht : v.t.size ≤ maxLen) :
    Calls Tryd.prog 16 #[v.val, .int .i64 left] w fun e w' => e = .returned (.int .i64 (szV v.t left)) ∧ Bel w w' := by
  obtain ⟨k, n, i, t, lo, hi⟩ := v
  simp only [VVal.val]
  simp only at ht
  unfold maxLen at ht
  go_enter Tryd.func16, Tryd.ntmps16
  go_wp2
  all_goals
    go_returns
    go_light
    refine ⟨?_, (by repeat' (first | with_reducible exact Bel.refl _ | with_reducible assumption | with_reducible refine Bel.set ?_ ?_ _ | with_reducible refine Bel.alloc ?_ _ | with_reducible refine Bel.drew ?_ | with_reducible refine Bel.drewN ?_ _ | with_reducible refine Bel.trans ?_ (by with_reducible assumption) | (simp; done) | (simp; omega) | refine Bel.alloc ?_ _ | refine Bel.drew ?_ | refine Bel.drewN ?_ _ | refine Bel.set ?_ ?_ _))⟩
    simp_all [szV]
    try omega
set_option maxHeartbeats 400000 in
theorem toValue_any (v : VVal) (w : World) :
    Calls Tryd.prog 18 #[v.val] w fun e w' => e = .returned v.val ∧ Bel w w' := by
  obtain ⟨k, n, i, t, lo, hi⟩ := v
  simp only [VVal.val]
  go_enter Tryd.func18, Tryd.ntmps18
  go_wp2
  go_returns
  exact ⟨rfl, (by repeat' (first | with_reducible exact Bel.refl _ | with_reducible assumption | with_reducible refine Bel.set ?_ ?_ _ | with_reducible refine Bel.alloc ?_ _ | with_reducible refine Bel.drew ?_ | with_reducible refine Bel.drewN ?_ _ | with_reducible refine Bel.trans ?_ (by with_reducible assumption) | (simp; done) | (simp; omega) | refine Bel.alloc ?_ _ | refine Bel.drew ?_ | refine Bel.drewN ?_ _ | refine Bel.set ?_ ?_ _))⟩
/-- Two values are one. -/
def VVal.eqB (a b : VVal) : Bool := decide (a.k = b.k) && decide (a.n = b.n) && decide (a.i = b.i) && decide (a.t = b.t) && decide (a.lo = b.lo) && decide (a.hi = b.hi)
theorem VVal.eqB_self (a : VVal) : a.eqB a = true := by simp [VVal.eqB]
set_option maxHeartbeats 1000000 in
theorem eqValue_any (a b : VVal) (w : World) :
    Calls Tryd.prog 20 #[a.val, b.val] w fun e w' => e = .returned (.bool (a.eqB b)) ∧ Bel w w' := by
  obtain ⟨k, n, i, t, lo, hi⟩ := a
  obtain ⟨k', n', i', t', lo', hi'⟩ := b
  simp only [VVal.val, VVal.eqB]
  go_enter Tryd.func20, Tryd.ntmps20
  go_wp2
  all_goals
    go_returns
    go_light
    refine ⟨?_, (by repeat' (first | with_reducible exact Bel.refl _ | with_reducible assumption | with_reducible refine Bel.set ?_ ?_ _ | with_reducible refine Bel.alloc ?_ _ | with_reducible refine Bel.drew ?_ | with_reducible refine Bel.drewN ?_ _ | with_reducible refine Bel.trans ?_ (by with_reducible assumption) | (simp; done) | (simp; omega) | refine Bel.alloc ?_ _ | refine Bel.drew ?_ | refine Bel.drewN ?_ _ | refine Bel.set ?_ ?_ _))⟩
    simp_all [ba_eq]

def isRef (k : Int) : Bool := decide (13 ≤ k) && decide (k ≤ 18)
end Go.Proofs.YtmikipcfepgogaaDoor
