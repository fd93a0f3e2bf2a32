/- FunctionName, FunctionNumber: both sides. -/
import Derived.Test.YtpcimcamjlbagaaDoorE1
namespace Go.Proofs.YtpcimcamjlbagaaDoor
set_option linter.unusedVariables false
set_option linter.unusedSimpArgs false
set_option maxRecDepth 100000
open Go.RowKit

theorem Sp.on {w w' : World} (h : Sp w) (hb : Bel w w') : Sp w' := Joins.tab_stays (g := 0) (by kernel_rfl) h hb (Nat.le_refl _)

def funName (n : Int) : ByteArray := if 0 ≤ n ∧ n < 55 then funL.getD n.toNat ByteArray.empty else ByteArray.empty

theorem Strs.bel {l : List ByteArray} {w w' : World} {e : Ending} (h : Strs l w w' e) : Bel w w' := by
  rw [h.2]; exact Bel.alloc (Bel.refl w) _

def funNumber (x : ByteArray) : Int := Lib.idxOfS funL x

end Go.Proofs.YtpcimcamjlbagaaDoor
