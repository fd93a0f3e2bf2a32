/- CountPattern and CountCore, both sides. -/
import Derived.Test.YtjodcciloflgbaaDoorTP
import Derived.Deep.QuietTactic
import Derived.BigQuiet
namespace Go.Proofs.YtjodcciloflgbaaDoor
set_option linter.unusedVariables false
set_option linter.unusedSimpArgs false
set_option maxRecDepth 100000
open Go.RowKit

mutual
def TPattern.cnt : TPattern → Nat
  | .mk _ _ _ _ _ ks => 1 + TPattern.cnts ks
def TPattern.cnts : List TPattern → Nat
  | [] => 0
  | x :: r => TPattern.cnt x + TPattern.cnts r
end
theorem TPattern.cnts_take : ∀ (l : List TPattern) (k : Nat) (h : k < l.length), TPattern.cnts (l.take (k + 1)) = TPattern.cnts (l.take k) + l[k].cnt
  | x :: r, 0, _ => by simp [TPattern.cnts]
  | x :: r, k + 1, h => by
    have := TPattern.cnts_take r k (by simpa using h)
    simp only [List.take_succ_cons, TPattern.cnts, List.getElem_cons_succ, this]
    omega
theorem TPattern.cnts_le : ∀ (l : List TPattern) (k : Nat), TPattern.cnts (l.take k) ≤ TPattern.cnts l
  | [], k => by simp
  | x :: r, 0 => by simp [TPattern.cnts]
  | x :: r, k + 1 => by
    have := TPattern.cnts_le r k
    simp only [List.take_succ_cons, TPattern.cnts]
    omega

end Go.Proofs.YtjodcciloflgbaaDoor
