/- What the laws of CountCore want of the two sides. -/
import Derived.Test.YtgahehipgabhpaaDoorP1C
import Derived.Test.YtgahehipgabhpaaDoorHCore
namespace Go.Proofs.YtgahehipgabhpaaDoor
set_option linter.unusedVariables false
set_option linter.unusedSimpArgs false
set_option maxRecDepth 100000
open Go.RowKit

mutual
theorem TCore.cnt_le : ∀ t : TCore, t.cnt ≤ Dat.wtL t.D + 1
  | .mk a b c d e ks => by
    have := TCore.cnts_le_wt ks
    rw [TCore.D_mk]
    simp only [TCore.cnt, Dat.wtL, Dat.wt, List.length_map]
    omega
theorem TCore.cnts_le_wt : ∀ l : List TCore, TCore.cnts l ≤ l.length + Dat.wtR (l.map TCore.D)
  | [] => by simp [TCore.cnts]
  | x :: r => by
    have h1 := TCore.cnt_le x
    have h2 := TCore.cnts_le_wt r
    simp only [TCore.cnts, List.map_cons, Dat.wtR, List.length_cons]
    omega
end
theorem specCountCore_law (t : TCore) (S : Nat → Prop) (w : World) (vs : List Value) (hv : Dat.HoldVals w S t.D vs) (hw : Dat.wtL t.D ≤ 1048576) :
    Calls Tryd.prog 17 #[.agg vs.toArray] w fun e w' => e = .returned (.int .i64 t.cnt) ∧ Bel w w' := specCountCore_any t S w vs hv (by have := t.cnt_le; omega)
theorem implCountCore_law (t : TCore) (S : Nat → Prop) (w : World) (vs : List Value) (hv : Dat.HoldVals w S t.D vs) (hw : Dat.wtL t.D ≤ 1048576) :
    Calls Tryd.prog 26 #[.agg vs.toArray] w fun e w' => e = .returned (.int .i64 t.cnt) ∧ Bel w w' := implCountCore_any t S w vs hv (by have := t.cnt_le; omega)
end Go.Proofs.YtgahehipgabhpaaDoor
