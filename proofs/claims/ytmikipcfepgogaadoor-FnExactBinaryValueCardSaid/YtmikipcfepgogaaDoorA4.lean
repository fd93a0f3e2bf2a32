/- Integer and text values; well-formed values. -/
import Derived.Test.YtmikipcfepgogaaDoorAh
import Derived.Test.YtmikipcfepgogaaDoorQ
namespace Go.Proofs.YtmikipcfepgogaaDoor
set_option linter.unusedVariables false
set_option linter.unusedSimpArgs false
set_option maxRecDepth 100000
open Go.RowKit

def VVal.zero : VVal := ⟨0, 0, 0, ByteArray.empty, 0, 0⟩
def intOk (n : Int) : Bool := decide (-999999999999 ≤ n) && decide (n ≤ 999999999999)
theorem intOk_iff (n : Int) : intOk n = true ↔ -999999999999 ≤ n ∧ n ≤ 999999999999 := by simp [intOk]
def VVal.ofInt (n : Int) : VVal := ⟨1, n, 0, ByteArray.empty, 0, 0⟩
def VVal.ofText (s : ByteArray) : VVal := ⟨2, 0, 0, s, 0, 0⟩
def VVal.ofSet (lo hi : Int) : VVal := ⟨3, 0, 0, ByteArray.empty, lo, hi⟩
def intV (n : Int) : VVal := if intOk n then VVal.ofInt n else VVal.zero
def textOk (s : ByteArray) : Bool := decide (s.size ≤ 120)
def textV (s : ByteArray) : VVal := if textOk s then VVal.ofText s else VVal.zero
set_option maxHeartbeats 400000 in
theorem l11Int_any (n : Int) (w : World) :
    Calls Tryd.prog 86 #[.int .i64 n] w fun e w' => e = .returned (VVal.ofInt n).val ∧ Bel w w' := by
  simp only [VVal.val, VVal.ofInt]
  go_enter Tryd.func86, Tryd.ntmps86
  go_wp2
  go_returns
  exact ⟨rfl, (by repeat' (first | with_reducible exact Bel.refl _ | with_reducible assumption | with_reducible refine Bel.set ?_ ?_ _ | with_reducible refine Bel.alloc ?_ _ | with_reducible refine Bel.drew ?_ | with_reducible refine Bel.drewN ?_ _ | with_reducible refine Bel.trans ?_ (by with_reducible assumption) | (simp; done) | (simp; omega) | refine Bel.alloc ?_ _ | refine Bel.drew ?_ | refine Bel.drewN ?_ _ | refine Bel.set ?_ ?_ _))⟩
set_option maxHeartbeats 400000 in
theorem l11Text_any (s : ByteArray) (w : World) :
    Calls Tryd.prog 90 #[.string s] w fun e w' => e = .returned (VVal.ofText s).val ∧ Bel w w' := by
  simp only [VVal.val, VVal.ofText]
  go_enter Tryd.func90, Tryd.ntmps90
  go_wp2
  go_returns
  exact ⟨rfl, (by repeat' (first | with_reducible exact Bel.refl _ | with_reducible assumption | with_reducible refine Bel.set ?_ ?_ _ | with_reducible refine Bel.alloc ?_ _ | with_reducible refine Bel.drew ?_ | with_reducible refine Bel.drewN ?_ _ | with_reducible refine Bel.trans ?_ (by with_reducible assumption) | (simp; done) | (simp; omega) | refine Bel.alloc ?_ _ | refine Bel.drew ?_ | refine Bel.drewN ?_ _ | refine Bel.set ?_ ?_ _))⟩
set_option maxHeartbeats 400000 in
theorem implIntegerValue_any (n : Int) (w : World) :
    Calls Tryd.prog 108 #[.int .i64 n] w fun e w' => e = .returned (.tuple #[(intV n).val, .bool (intOk n)]) ∧ Bel w w' := by
  by_cases h1 : -999999999999 ≤ n <;> by_cases h2 : n ≤ 999999999999
  rotate_left 3
  · exfalso; omega
  all_goals
    first
      | (have ho : intOk n = true := by simp [intOk, h1, h2])
      | (have ho : intOk n = false := by simp [intOk, h1, h2])
    simp only [intV, ho, ↓reduceIte, Bool.false_eq_true, VVal.val, VVal.ofInt, VVal.zero]
    clear ho
    go_enter Tryd.func108, Tryd.ntmps108
    go_wp2
    all_goals
      go_returns
      exact ⟨rfl, (by repeat' (first | with_reducible exact Bel.refl _ | with_reducible assumption | with_reducible refine Bel.set ?_ ?_ _ | with_reducible refine Bel.alloc ?_ _ | with_reducible refine Bel.drew ?_ | with_reducible refine Bel.drewN ?_ _ | with_reducible refine Bel.trans ?_ (by with_reducible assumption) | (simp; done) | (simp; omega) | refine Bel.alloc ?_ _ | refine Bel.drew ?_ | refine Bel.drewN ?_ _ | refine Bel.set ?_ ?_ _))⟩
end Go.Proofs.YtmikipcfepgogaaDoor
