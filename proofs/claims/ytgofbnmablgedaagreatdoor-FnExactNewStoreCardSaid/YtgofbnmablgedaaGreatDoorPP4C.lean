/- What the laws of CountCore want of the two sides. -/
import Derived.Test.YtgofbnmablgedaaGreatDoorPP1C
import Derived.Test.YtgofbnmablgedaaGreatDoorPHCore
namespace Go.Proofs.YtgofbnmablgedaaGreatDoor
set_option linter.unusedVariables false
set_option linter.unusedSimpArgs false
set_option maxRecDepth 100000
open Go.RowKit
mutual
theorem TCore.cnt_le : ∀ t : TCore, t.cnt ≤ Dat.wtL t.D + 1
 | .mk a b c d e ks => by
  have := TCore.cnts_le_wt ks
  rw [TCore.D_mk]
  simp only [TCore.cnt, Dat.wtL, Dat.wt, List.length_map]
  omega
theorem TCore.cnts_le_wt : ∀ l : List TCore, TCore.cnts l ≤ l.length + Dat.wtR (l.map TCore.D)
 | [] => by simp [TCore.cnts]
 | x :: r => by
  have h1 := TCore.cnt_le x
  have h2 := TCore.cnts_le_wt r
  simp only [TCore.cnts, List.map_cons, Dat.wtR, List.length_cons]
  omega
end
end Go.Proofs.YtgofbnmablgedaaGreatDoor
