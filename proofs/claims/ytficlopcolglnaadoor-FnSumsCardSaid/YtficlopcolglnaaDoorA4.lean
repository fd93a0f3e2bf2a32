/- Integer and text values; well-formed values. -/
import Derived.Test.YtficlopcolglnaaDoorAh
import Derived.Test.YtficlopcolglnaaDoorQ
namespace Go.Proofs.YtficlopcolglnaaDoor
set_option linter.unusedVariables false
set_option linter.unusedSimpArgs false
set_option maxRecDepth 100000
open Go.RowKit

def VVal.zero : VVal := ⟨0, 0, 0, ByteArray.empty, 0, 0⟩
def intOk (n : Int) : Bool := decide (-999999999999 ≤ n) && decide (n ≤ 999999999999)
theorem intOk_iff (n : Int) : intOk n = true ↔ -999999999999 ≤ n ∧ n ≤ 999999999999 := by simp [intOk]
def VVal.ofInt (n : Int) : VVal := ⟨1, n, 0, ByteArray.empty, 0, 0⟩
def VVal.ofText (s : ByteArray) : VVal := ⟨2, 0, 0, s, 0, 0⟩
def VVal.ofSet (lo hi : Int) : VVal := ⟨3, 0, 0, ByteArray.empty, lo, hi⟩
def intV (n : Int) : VVal := if intOk n then VVal.ofInt n else VVal.zero
def textOk (s : ByteArray) : Bool := decide (s.size ≤ 120)
def textV (s : ByteArray) : VVal := if textOk s then VVal.ofText s else VVal.zero
set_option maxHeartbeats 400000 in
theorem l11Int_any (n : Int) (w : World) :
    Calls Tryd.prog 68 #[.int .i64 n] w fun e w' => e = .returned (VVal.ofInt n).val ∧ Bel w w' := by
  simp only [VVal.val, VVal.ofInt]
  go_enter Tryd.func68, Tryd.ntmps68
  go_wp2
  go_returns
  exact ⟨rfl, (by repeat' (first | exact Bel.refl _ | with_reducible assumption | refine Bel.trans ?_ (by with_reducible assumption) | refine Bel.alloc ?_ _ | refine Bel.drew ?_ | refine Bel.drewN ?_ _ | refine Bel.set ?_ ?_ _ | (simp; done) | (simp; omega)))⟩
set_option maxHeartbeats 400000 in
theorem l11Text_any (s : ByteArray) (w : World) :
    Calls Tryd.prog 66 #[.string s] w fun e w' => e = .returned (VVal.ofText s).val ∧ Bel w w' := by
  simp only [VVal.val, VVal.ofText]
  go_enter Tryd.func66, Tryd.ntmps66
  go_wp2
  go_returns
  exact ⟨rfl, (by repeat' (first | exact Bel.refl _ | with_reducible assumption | refine Bel.trans ?_ (by with_reducible assumption) | refine Bel.alloc ?_ _ | refine Bel.drew ?_ | refine Bel.drewN ?_ _ | refine Bel.set ?_ ?_ _ | (simp; done) | (simp; omega)))⟩
set_option maxHeartbeats 400000 in
theorem implIntegerValue_any (n : Int) (w : World) :
    Calls Tryd.prog 29 #[.int .i64 n] w fun e w' => e = .returned (.tuple #[(intV n).val, .bool (intOk n)]) ∧ Bel w w' := by
  by_cases h1 : -999999999999 ≤ n <;> by_cases h2 : n ≤ 999999999999
  rotate_left 3
  · exfalso; omega
  all_goals
    first
      | (have ho : intOk n = true := by simp [intOk, h1, h2])
      | (have ho : intOk n = false := by simp [intOk, h1, h2])
    simp only [intV, ho, ↓reduceIte, Bool.false_eq_true, VVal.val, VVal.ofInt, VVal.zero]
    clear ho
    go_enter Tryd.func29, Tryd.ntmps29
    go_wp2
    all_goals
      go_returns
      exact ⟨rfl, (by repeat' (first | exact Bel.refl _ | with_reducible assumption | refine Bel.trans ?_ (by with_reducible assumption) | refine Bel.alloc ?_ _ | refine Bel.drew ?_ | refine Bel.drewN ?_ _ | refine Bel.set ?_ ?_ _ | (simp; done) | (simp; omega)))⟩
set_option maxHeartbeats 400000 in
theorem implStringValue_any (s : ByteArray) (w : World) (hs : s.size ≤ maxLen) :
    Calls Tryd.prog 30 #[.string s] w fun e w' => e = .returned (.tuple #[(textV s).val, .bool (textOk s)]) ∧ Bel w w' := by
  unfold maxLen at hs
  by_cases h1 : s.size ≤ 120
  all_goals
    first
      | (have ho : textOk s = true := by simp [textOk, h1])
      | (have ho : textOk s = false := by simp [textOk, h1])
    simp only [textV, ho, ↓reduceIte, Bool.false_eq_true, VVal.val, VVal.ofText, VVal.zero]
    clear ho
    go_enter Tryd.func30, Tryd.ntmps30
    go_wp2
    all_goals
      go_returns
      exact ⟨rfl, (by repeat' (first | exact Bel.refl _ | with_reducible assumption | refine Bel.trans ?_ (by with_reducible assumption) | refine Bel.alloc ?_ _ | refine Bel.drew ?_ | refine Bel.drewN ?_ _ | refine Bel.set ?_ ?_ _ | (simp; done) | (simp; omega)))⟩
end Go.Proofs.YtficlopcolglnaaDoor
