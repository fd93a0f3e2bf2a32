/- CountCore, both sides. -/
import Derived.Test.YtpcimcamjlbagaaDoorTP
import Derived.Deep.QuietTactic
import Derived.BigQuiet
namespace Go.Proofs.YtpcimcamjlbagaaDoor
set_option linter.unusedVariables false
set_option linter.unusedSimpArgs false
set_option maxRecDepth 100000
open Go.RowKit

mutual
def TCore.cnt : TCore → Nat
  | .mk _ _ _ _ _ ks => 1 + TCore.cnts ks
def TCore.cnts : List TCore → Nat
  | [] => 0
  | x :: r => TCore.cnt x + TCore.cnts r
end
theorem TCore.cnts_take : ∀ (l : List TCore) (k : Nat) (h : k < l.length), TCore.cnts (l.take (k + 1)) = TCore.cnts (l.take k) + l[k].cnt
  | x :: r, 0, _ => by simp [TCore.cnts]
  | x :: r, k + 1, h => by
    have := TCore.cnts_take r k (by simpa using h)
    simp only [List.take_succ_cons, TCore.cnts, List.getElem_cons_succ, this]
    omega
theorem TCore.cnts_le : ∀ (l : List TCore) (k : Nat), TCore.cnts (l.take k) ≤ TCore.cnts l
  | [], k => by simp
  | x :: r, 0 => by simp [TCore.cnts]
  | x :: r, k + 1 => by
    have := TCore.cnts_le r k
    simp only [List.take_succ_cons, TCore.cnts]
    omega

end Go.Proofs.YtpcimcamjlbagaaDoor
