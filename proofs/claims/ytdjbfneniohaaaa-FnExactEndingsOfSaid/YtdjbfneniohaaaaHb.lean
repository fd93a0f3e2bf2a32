/- What is left behind a datum. -/
import Derived.Test.YtdjbfneniohaaaaTP
import Derived.Test.YtdjbfneniohaaaaFi
import Derived.Deep.QuietTactic
import Derived.BigQuiet
import Derived.Deep.RegionHeld3
namespace Go.Proofs.Ytdjbfneniohaaaa
set_option linter.unusedVariables false
set_option linter.unusedSimpArgs false
set_option maxRecDepth 100000
open Go.RowKit

mutual
def Dat.wt : Dat → Nat
  | .int _ => 0
  | .str s => s.size
  | .bool _ => 0
  | .row _ xs => xs.length + Dat.wtR xs
def Dat.wtR : List (List Dat) → Nat
  | [] => 0
  | ds :: r => Dat.wtL ds + Dat.wtR r
def Dat.wtL : List Dat → Nat
  | [] => 0
  | d :: r => Dat.wt d + Dat.wtL r
end
theorem Dat.wtR_take : ∀ (l : List (List Dat)) (k : Nat) (h : k < l.length), Dat.wtR (l.take (k + 1)) = Dat.wtR (l.take k) + Dat.wtL l[k]
  | x :: r, 0, _ => by simp [Dat.wtR]
  | x :: r, k + 1, h => by
    have := Dat.wtR_take r k (by simpa using h)
    simp only [List.take_succ_cons, Dat.wtR, List.getElem_cons_succ, this]
    omega
theorem Dat.wtR_le : ∀ (l : List (List Dat)) (k : Nat), Dat.wtR (l.take k) ≤ Dat.wtR l
  | [], k => by simp
  | x :: r, 0 => by simp [Dat.wtR]
  | x :: r, k + 1 => by
    have := Dat.wtR_le r k
    simp only [List.take_succ_cons, Dat.wtR]
    omega
/-- What is left behind m. -/
def szL (m : Nat) (left : Int) : Int := if left < m then -1 else left - m
theorem szL_no {m : Nat} {left : Int} (h : left < m) : szL m left = -1 := by unfold szL; rw [if_pos h]
theorem szL_yes {m : Nat} {left : Int} (h : ¬ left < m) : szL m left = left - m := by unfold szL; rw [if_neg h]

theorem ret_i64 {a b : Int} (h : a = b) : Ending.returned (.int .i64 a) = .returned (.int .i64 b) := by rw [h]
theorem szL_le {m : Nat} {left : Int} (h : 0 ≤ left) : szL m left ≤ left := by unfold szL; split <;> omega
theorem Calls.szTwo {P : Program} {f : FuncId} {args : Array Value} {w : World} {m : Nat} {left : Int} (h : Calls P f args w fun e w' => e = .returned (.int .i64 (szL m left)) ∧ Bel w w') :
    Calls P f args w fun e w' => ∃ l : Int, e = .returned (.int .i64 l) ∧ ((left < m ∧ l = -1) ∨ ((m : Int) ≤ left ∧ l = left - m)) ∧ Bel w w' :=
  h.mono fun e w' ⟨he, hb⟩ => ⟨_, he, by
    rcases Int.lt_or_le left m with hq | hq
    · exact Or.inl ⟨hq, szL_no hq⟩
    · exact Or.inr ⟨hq, szL_yes (by omega)⟩, hb⟩
theorem Calls.named {P : Program} {f : FuncId} {args : Array Value} {W : World} {Q : Ending → World → Prop} (h : ∀ wq, W = wq → Calls P f args wq Q) : Calls P f args W Q := h W rfl
theorem quiet_ws {P : Program} {f : FuncId} {args : Array Value} {w : World} {n : Nat} {v : Value}
    (h : Calls P f args (w.drewN n) fun e w' => e = .returned v ∧ w.drewN n = w') : Calls P f args (w.drewN n) fun e w'' => e = .returned v ∧ ∃ m, w'' = w.drewN m :=
  Calls.quiet_of_same (h.mono fun _ _ ⟨a, b⟩ => ⟨a, b.symm⟩)
theorem toCset_flat (lo hi : Int) (w : World) :
    Calls Try.prog 38 #[.agg #[.int .i64 lo, .int .i64 hi]] w fun e w' => e = .returned (.agg #[.int .i64 lo, .int .i64 hi]) ∧ Bel w w' := by
  go_enter Try.func38, Try.ntmps38
  go_wp2
  go_returns
  exact ⟨rfl, bl⟩
theorem eqCset_same (lo hi : Int) (w : World) :
    Calls Try.prog 40 #[.agg #[.int .i64 lo, .int .i64 hi], .agg #[.int .i64 lo, .int .i64 hi]] w fun e w' => e = .returned (.bool true) ∧ Bel w w' := by
  go_enter Try.func40, Try.ntmps40
  go_wp2
  all_goals
    go_returns
    exact ⟨rfl, bl⟩
end Go.Proofs.Ytdjbfneniohaaaa
