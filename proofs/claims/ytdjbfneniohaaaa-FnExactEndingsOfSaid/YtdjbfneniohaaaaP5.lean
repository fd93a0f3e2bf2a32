/- A valid pattern: the number of kids, the nodes that are left, the reference's test of a node. -/
import Derived.Test.YtdjbfneniohaaaaP1
import Derived.Test.YtdjbfneniohaaaaHPattern
namespace Go.Proofs.Ytdjbfneniohaaaa
set_option linter.unusedVariables false
set_option linter.unusedSimpArgs false
set_option maxRecDepth 100000
open Go.RowKit

def kidsN (op : Int) : Nat := if op = 13 ∨ op = 16 ∨ op = 17 then 1 else if op = 14 ∨ op = 15 then 2 else 0
set_option maxHeartbeats 400000 in
theorem l18Kids_any (op : Int) (w : World) : Calls Try.prog 67 #[.int .i64 op] w fun e w' => e = .returned (.int .i64 (kidsN op)) ∧ w = w' := by
  go_enter Try.func67, Try.ntmps67
  go_wp2
  all_goals
    go_returns
    go_light
    refine ⟨?_, rfl⟩
    simp_all [kidsN]
set_option maxHeartbeats 400000 in
theorem patternKids_any (op : Int) (w : World) : Calls Try.prog 70 #[.int .i64 op] w fun e w' => e = .returned (.int .i64 (kidsN op)) ∧ w = w' := by
  go_enter Try.func70, Try.ntmps70
  go_wp2
  all_goals
    go_returns
    go_light
    refine ⟨?_, rfl⟩
    simp_all [kidsN]
set_option maxHeartbeats 400000 in
theorem l1In_any (a b c : Int) (w : World) : Calls Try.prog 31 #[.int .i64 a, .int .i64 b, .int .i64 c] w fun e w' => e = .returned (.bool (decide (b ≤ a) && decide (a ≤ c))) ∧ w = w' := by
  by_cases h : b ≤ a
  · have hd : decide (b ≤ a) = true := by simp [h]
    go_enter Try.func31, Try.ntmps31
    go_wp2
    all_goals
      go_returns
      exact ⟨by simp [h], rfl⟩
  · have hd : decide (b ≤ a) = false := by simp [h]
    go_enter Try.func31, Try.ntmps31
    go_wp2
    all_goals
      go_returns
      exact ⟨by simp [h], rfl⟩

theorem tlE {t : ByteArray} : t.toList.isEmpty = true ↔ t.size = 0 := by
  rw [ByteArray.toList_eq, List.isEmpty_iff, ← List.length_eq_zero_iff]
  simp
/-- The node's own test: its operator, its kids' number, its text, its set. -/
def nodeA (op lo hi : Int) (t : ByteArray) (m : Nat) : Prop := 1 ≤ op ∧ op ≤ 23 ∧ m = kidsN op ∧ (op = 1 ∨ t.size = 0) ∧ t.size ≤ 120 ∧ ((7 ≤ op ∧ op ≤ 10) ∨ (lo = 0 ∧ hi = 0))
/-- The node's number. -/
def nodeN (op n vars : Int) : Prop := if 2 ≤ op ∧ op ≤ 6 then 0 ≤ n ∧ n ≤ 120 else if op = 16 ∨ op = 17 ∨ op = 18 ∨ op = 20 then 0 ≤ n ∧ n < vars else n = 0
instance (op lo hi : Int) (t : ByteArray) (m : Nat) : Decidable (nodeA op lo hi t m) := by unfold nodeA; infer_instance
instance (op n vars : Int) : Decidable (nodeN op n vars) := by unfold nodeN; infer_instance
mutual
def TPattern.vld (vars : Int) : TPattern → Bool
  | .mk op t n lo hi ks => decide (nodeA op lo hi t ks.length) && decide (nodeN op n vars) && TPattern.vlds vars ks
def TPattern.vlds (vars : Int) : List TPattern → Bool
  | [] => true
  | x :: r => TPattern.vld vars x && TPattern.vlds vars r
end
theorem ret_bool {a b : Bool} (h : a = b) : Ending.returned (.bool a) = .returned (.bool b) := by rw [h]
theorem TPattern.vlds_take (vars : Int) : ∀ (l : List TPattern) (k : Nat) (h : k < l.length), TPattern.vlds vars (l.take (k + 1)) = (TPattern.vlds vars (l.take k) && l[k].vld vars)
  | x :: r, 0, _ => by simp [TPattern.vlds]
  | x :: r, k + 1, h => by
    have := TPattern.vlds_take vars r k (by simpa using h)
    simp only [List.take_succ_cons, TPattern.vlds, List.getElem_cons_succ, this, Bool.and_assoc]
theorem TPattern.vlds_yes {vars : Int} {l : List TPattern} {k : Nat} (h : k < l.length) (h1 : TPattern.vlds vars (l.take k) = true) (h2 : l[k].vld vars = true) : TPattern.vlds vars (l.take (k + 1)) = true := by
  rw [TPattern.vlds_take vars l k h, h1, h2]; rfl
theorem TPattern.vlds_no {vars : Int} : ∀ {l : List TPattern} {k : Nat} (h : k < l.length), l[k].vld vars = false → TPattern.vlds vars l = false
  | x :: r, 0, _, h => by simp at h; simp [TPattern.vlds, h]
  | x :: r, k + 1, hk, h => by
    have := TPattern.vlds_no (l := r) (k := k) (by simpa using hk) (by simpa using h)
    simp [TPattern.vlds, this]
end Go.Proofs.Ytdjbfneniohaaaa
