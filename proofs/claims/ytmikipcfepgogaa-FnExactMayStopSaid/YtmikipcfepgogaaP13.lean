/- What the law of MayStop wants of the two sides. -/
import Derived.Test.YtmikipcfepgogaaP12
import Derived.Test.YtmikipcfepgogaaTS
namespace Go.Proofs.Ytmikipcfepgogaa
set_option linter.unusedVariables false
set_option linter.unusedSimpArgs false
set_option maxRecDepth 100000
open Go.RowKit

theorem cnt_at {l : List TPattern} (h : l.length + Dat.wtR (l.map TPattern.D) ≤ 1048576) (k : Nat) (hk : k < l.length) : l[k].cnt ≤ 2000000 := by
  have h1 := Dat.wtR_take (l.map TPattern.D) k (by simpa using hk)
  have h2 := Dat.wtR_le (l.map TPattern.D) (k + 1)
  rw [List.getElem_map] at h1
  have := l[k].cnt_le
  omega
theorem specMayStop_law (ds : List TPattern) (t : TPattern) (w : World) (S : Nat → Prop) (A : Option Addr) (c : Nat) (hR : Row w S 6 A c (ds.map TPattern.D)) (hwd : ds.length + Dat.wtR (ds.map TPattern.D) ≤ 1048576) (S' : Nat → Prop) (vs : List Value) (hv : Dat.HoldVals w S' t.D vs) (hw : Dat.wtL t.D ≤ 1048576) :
    Calls Try.prog 39 #[.slice A ds.length c, .agg vs.toArray] w fun e w' => e = .returned (.bool (mayR ds t)) ∧ Bel w w' := specMayStop_any ds t S S' w A c vs hR hv (by have := t.cnt_le; omega) (cnt_at hwd)
theorem implMayStop_law (ds : List TPattern) (t : TPattern) (w : World) (S : Nat → Prop) (A : Option Addr) (c : Nat) (hR : Row w S 6 A c (ds.map TPattern.D)) (hwd : ds.length + Dat.wtR (ds.map TPattern.D) ≤ 1048576) (S' : Nat → Prop) (vs : List Value) (hv : Dat.HoldVals w S' t.D vs) (hw : Dat.wtL t.D ≤ 1048576) :
    Calls Try.prog 41 #[.slice A ds.length c, .agg vs.toArray] w fun e w' => e = .returned (.bool (mayR ds t)) ∧ Bel w w' := implMayStop_any ds t S S' w A c vs hR hv (by have := t.cnt_le; omega) (cnt_at hwd)
end Go.Proofs.Ytmikipcfepgogaa
