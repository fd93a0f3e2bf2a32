/- What the law of MayStop wants of the two sides. -/
import Derived.Test.YtdjbfneniohaaaaP12
import Derived.Test.YtdjbfneniohaaaaTS
namespace Go.Proofs.Ytdjbfneniohaaaa
set_option linter.unusedVariables false
set_option linter.unusedSimpArgs false
set_option maxRecDepth 100000
open Go.RowKit

theorem cnt_at {l : List TPattern} (h : l.length + Dat.wtR (l.map TPattern.D) ≤ 1048576) (k : Nat) (hk : k < l.length) : l[k].cnt ≤ 2000000 := by
  have h1 := Dat.wtR_take (l.map TPattern.D) k (by simpa using hk)
  have h2 := Dat.wtR_le (l.map TPattern.D) (k + 1)
  rw [List.getElem_map] at h1
  have := l[k].cnt_le
  omega
end Go.Proofs.Ytdjbfneniohaaaa
