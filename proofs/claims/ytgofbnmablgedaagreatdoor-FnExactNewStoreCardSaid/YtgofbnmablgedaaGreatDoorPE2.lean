/- FunctionName, FunctionNumber: both sides. -/
import Derived.Test.YtgofbnmablgedaaGreatDoorPShelf
namespace Go.Proofs.YtgofbnmablgedaaGreatDoor
set_option linter.unusedVariables false
set_option linter.unusedSimpArgs false
set_option maxRecDepth 100000
open Go.RowKit
theorem Sp.on {w w' : World} (h : Sp w) (hb : Bel w w') : Sp w' := Joins.tab_stays (g := 0) (by kernel_rfl) h hb (Nat.le_refl _)
theorem Strs.bel {l : List ByteArray} {w w' : World} {e : Ending} (h : Strs l w w' e) : Bel w w' := by
 rw [h.2]; exact Bel.alloc (Bel.refl w) _
end Go.Proofs.YtgofbnmablgedaaGreatDoor
