/- CountPattern and CountCore, both sides. -/
import Derived.Test.YtdacpljinffnaaaDoorPD
import Derived.Deep.QuietTactic
import Derived.BigQuiet
namespace Go.Proofs.YtdacpljinffnaaaDoor
set_option linter.unusedVariables false
set_option linter.unusedSimpArgs false
set_option maxRecDepth 100000
open Go.RowKit
mutual
def TPattern.cnt : TPattern → Nat
 | .mk _ _ _ _ _ ks => 1 + TPattern.cnts ks
def TPattern.cnts : List TPattern → Nat
 | [] => 0
 | x :: r => TPattern.cnt x + TPattern.cnts r
end
theorem TPattern.cnts_take : ∀ (l : List TPattern) (k : Nat) (h : k < l.length), TPattern.cnts (l.take (k + 1)) = TPattern.cnts (l.take k) + l[k].cnt
 | x :: r, 0, _ => by simp [TPattern.cnts]
 | x :: r, k + 1, h => by
  have := TPattern.cnts_take r k (by simpa using h)
  simp only [List.take_succ_cons, TPattern.cnts, List.getElem_cons_succ, this]
  omega
theorem TPattern.cnts_le : ∀ (l : List TPattern) (k : Nat), TPattern.cnts (l.take k) ≤ TPattern.cnts l
 | [], k => by simp
 | x :: r, 0 => by simp [TPattern.cnts]
 | x :: r, k + 1 => by
  have := TPattern.cnts_le r k
  simp only [List.take_succ_cons, TPattern.cnts]
  omega
end Go.Proofs.YtdacpljinffnaaaDoor
namespace Go.Proofs.YtdacpljinffnaaaDoor
set_option linter.unusedVariables false
set_option linter.unusedSimpArgs false
set_option maxRecDepth 100000
open Go.RowKit
def kidsN (op : Int) : Nat := if op = 13 ∨ op = 16 ∨ op = 17 then 1 else if op = 14 ∨ op = 15 then 2 else 0
theorem tlE {t : ByteArray} : t.toList.isEmpty = true ↔ t.size = 0 := by
 rw [ByteArray.toList_eq, List.isEmpty_iff, ← List.length_eq_zero_iff]
 simp
def nodeA (op lo hi : Int) (t : ByteArray) (m : Nat) : Prop := 1 ≤ op ∧ op ≤ 23 ∧ m = kidsN op ∧ (op = 1 ∨ t.size = 0) ∧ t.size ≤ 120 ∧ ((7 ≤ op ∧ op ≤ 10) ∨ (lo = 0 ∧ hi = 0))
def nodeN (op n vars : Int) : Prop := if 2 ≤ op ∧ op ≤ 6 then 0 ≤ n ∧ n ≤ 120 else if op = 16 ∨ op = 17 ∨ op = 18 ∨ op = 20 then 0 ≤ n ∧ n < vars else n = 0
instance (op lo hi : Int) (t : ByteArray) (m : Nat) : Decidable (nodeA op lo hi t m) := by unfold nodeA; infer_instance
instance (op n vars : Int) : Decidable (nodeN op n vars) := by unfold nodeN; infer_instance
mutual
def TPattern.vld (vars : Int) : TPattern → Bool
 | .mk op t n lo hi ks => decide (nodeA op lo hi t ks.length) && decide (nodeN op n vars) && TPattern.vlds vars ks
def TPattern.vlds (vars : Int) : List TPattern → Bool
 | [] => true
 | x :: r => TPattern.vld vars x && TPattern.vlds vars r
end
end Go.Proofs.YtdacpljinffnaaaDoor
