/- A pattern's nodes, by its weight. -/
import Derived.Test.YtmikipcfepgogaaDoorP1
import Derived.Test.YtmikipcfepgogaaDoorHb
namespace Go.Proofs.YtmikipcfepgogaaDoor
set_option linter.unusedVariables false
set_option linter.unusedSimpArgs false
set_option maxRecDepth 100000
open Go.RowKit

mutual
theorem TPattern.cnt_le : ∀ t : TPattern, t.cnt ≤ Dat.wtL t.D + 1
  | .mk a b c d e ks => by
    have := TPattern.cnts_le_wt ks
    rw [TPattern.D_mk]
    simp only [TPattern.cnt, Dat.wtL, Dat.wt, List.length_map]
    omega
theorem TPattern.cnts_le_wt : ∀ l : List TPattern, TPattern.cnts l ≤ l.length + Dat.wtR (l.map TPattern.D)
  | [] => by simp [TPattern.cnts]
  | x :: r => by
    have h1 := TPattern.cnt_le x
    have h2 := TPattern.cnts_le_wt r
    simp only [TPattern.cnts, List.map_cons, Dat.wtR, List.length_cons]
    omega
end
end Go.Proofs.YtmikipcfepgogaaDoor
