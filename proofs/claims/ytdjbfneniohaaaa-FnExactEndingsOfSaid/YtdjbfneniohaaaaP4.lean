/- What the laws of CountPattern want of the two sides. -/
import Derived.Test.YtdjbfneniohaaaaP1
import Derived.Test.YtdjbfneniohaaaaHPattern
namespace Go.Proofs.Ytdjbfneniohaaaa
set_option linter.unusedVariables false
set_option linter.unusedSimpArgs false
set_option maxRecDepth 100000
open Go.RowKit

mutual
theorem TPattern.cnt_le : ∀ t : TPattern, t.cnt ≤ Dat.wtL t.D + 1
  | .mk a b c d e ks => by
    have := TPattern.cnts_le_wt ks
    rw [TPattern.D_mk]
    simp only [TPattern.cnt, Dat.wtL, Dat.wt, List.length_map]
    omega
theorem TPattern.cnts_le_wt : ∀ l : List TPattern, TPattern.cnts l ≤ l.length + Dat.wtR (l.map TPattern.D)
  | [] => by simp [TPattern.cnts]
  | x :: r => by
    have h1 := TPattern.cnt_le x
    have h2 := TPattern.cnts_le_wt r
    simp only [TPattern.cnts, List.map_cons, Dat.wtR, List.length_cons]
    omega
end
theorem implCountPattern_law (t : TPattern) (S : Nat → Prop) (w : World) (vs : List Value) (hv : Dat.HoldVals w S t.D vs) (hw : Dat.wtL t.D ≤ 1048576) :
    Calls Try.prog 56 #[.agg vs.toArray] w fun e w' => e = .returned (.int .i64 t.cnt) ∧ Bel w w' := implCountPattern_any t S w vs hv (by have := t.cnt_le; omega)
end Go.Proofs.Ytdjbfneniohaaaa
