/- What the laws of IsValidPattern and LeastLength want of the two sides. -/
import Derived.Test.YtdjbfneniohaaaaP9
import Derived.Test.YtdjbfneniohaaaaP10
namespace Go.Proofs.Ytdjbfneniohaaaa
set_option linter.unusedVariables false
set_option linter.unusedSimpArgs false
set_option maxRecDepth 100000
open Go.RowKit

theorem specIsValidPattern_law (vars : Int) (t : TPattern) (S : Nat → Prop) (w : World) (vs : List Value) (hv : Dat.HoldVals w S t.D vs) (_hw : Dat.wtL t.D ≤ 1048576) :
    Calls Try.prog 36 #[.agg vs.toArray, .int .i64 vars] w fun e w' => e = .returned (.bool (okP vars t)) ∧ Bel w w' := specIsValidPattern_any vars t S w vs hv
theorem implIsValidPattern_law (vars : Int) (t : TPattern) (S : Nat → Prop) (w : World) (vs : List Value) (hv : Dat.HoldVals w S t.D vs) (hw : Dat.wtL t.D ≤ 1048576) :
    Calls Try.prog 33 #[.agg vs.toArray, .int .i64 vars] w fun e w' => e = .returned (.bool (okP vars t)) ∧ Bel w w' := implIsValidPattern_any vars t S w vs hv (by have := t.cnt_le; omega)
theorem okP_vld {vars : Int} {t : TPattern} (h : okP vars t = true) : 0 ≤ vars ∧ vars ≤ 24 ∧ t.cnt ≤ 300 ∧ t.vld vars = true := by
  simpa [okP] using h
def leastR (t : TPattern) : Int := if okP 24 t then t.least else 0
set_option maxHeartbeats 400000 in
theorem implLeastLength_law (t : TPattern) (S : Nat → Prop) (w : World) (vs : List Value) (hv : Dat.HoldVals w S t.D vs) (hw : Dat.wtL t.D ≤ 1048576) :
    Calls Try.prog 12 #[.agg vs.toArray] w fun e w' => e = .returned (.int .i64 (leastR t)) ∧ Bel w w' := by
  have HV := hide hv
  have HW := hide hw
  have hv' := hv
  obtain ⟨x0, x1, x2, x3, x4, x5⟩ := t
  obtain ⟨A, c, rfl, -⟩ := TPattern.vals hv'
  clear hv hv' hw
  cases hk : okP 24 (TPattern.mk x0 x1 x2 x3 x4 x5)
  · have HK := hide hk
    clear hk
    go_enter Try.func12, Try.ntmps12
    go_wp2_with (fail)
    refine (implIsValidPattern_law _ _ _ _ _ (Dat.HoldVals.bel bl HV.out) HW.out).mono ?_
    rintro e w1 ⟨rfl, hb1⟩
    rw [HK.out]
    go_wp2_with (fail)
    all_goals
      go_returns
      exact ⟨ret_i64 (by unfold leastR; rw [HK.out]; rfl), bl⟩
  · have HK := hide hk
    clear hk
    go_enter Try.func12, Try.ntmps12
    go_wp2_with (fail)
    refine (implIsValidPattern_law _ _ _ _ _ (Dat.HoldVals.bel bl HV.out) HW.out).mono ?_
    rintro e w1 ⟨rfl, hb1⟩
    rw [HK.out]
    (have hz1 := hb1.sz; obtain ⟨hk1_0, hf1_0, hl1_0, hn1_0⟩ := hb1.lay (w.heap.size))
    go_wp2_with (fail)
    refine (leastLength_any 24 _ _ _ _ (Dat.HoldVals.bel bl HV.out) (okP_vld HK.out).2.2.2).mono ?_
    rintro e w2 ⟨rfl, hb2⟩
    go_wp2_with (fail)
    all_goals
      go_returns
      exact ⟨ret_i64 (by unfold leastR; rw [HK.out]; rfl), bl⟩
end Go.Proofs.Ytdjbfneniohaaaa
