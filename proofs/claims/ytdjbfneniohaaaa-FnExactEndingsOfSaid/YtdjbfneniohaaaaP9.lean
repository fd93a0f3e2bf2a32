/- IsValidPattern, both sides. -/
import Derived.Test.YtdjbfneniohaaaaP8
import Derived.Test.YtdjbfneniohaaaaP4
namespace Go.Proofs.Ytdjbfneniohaaaa
set_option linter.unusedVariables false
set_option linter.unusedSimpArgs false
set_option maxRecDepth 100000
open Go.RowKit

def okP (vars : Int) (t : TPattern) : Bool := decide (0 ≤ vars) && (decide (vars ≤ 24) && (decide (t.cnt ≤ 300) && t.vld vars))
theorem okP_lo {vars : Int} {t : TPattern} (h : vars < 0) : okP vars t = false := by unfold okP; rw [show decide (0 ≤ vars) = false by simp; omega]; rfl
theorem okP_hi {vars : Int} {t : TPattern} (h : 24 < vars) : okP vars t = false := by unfold okP; rw [show decide (vars ≤ 24) = false by simp; omega]; simp
theorem okP_cnt {vars : Int} {t : TPattern} (h : 300 < t.cnt) : okP vars t = false := by unfold okP; rw [show decide (t.cnt ≤ 300) = false by simp; omega]; simp
theorem okP_yes {vars : Int} {t : TPattern} (h : 0 ≤ vars) (h1 : vars ≤ 24) (h2 : t.cnt ≤ 300) : okP vars t = t.vld vars := by unfold okP; simp [h, h1, h2]
set_option maxHeartbeats 400000 in
theorem specIsValidPattern_any (vars : Int) (t : TPattern) (S : Nat → Prop) (w : World) (vs : List Value) (hv : Dat.HoldVals w S t.D vs) :
    Calls Try.prog 36 #[.agg vs.toArray, .int .i64 vars] w fun e w' => e = .returned (.bool (okP vars t)) ∧ Bel w w' := by
  have HV := hide hv
  have hv' := hv
  obtain ⟨x0, x1, x2, x3, x4, x5⟩ := t
  obtain ⟨A, c, rfl, -⟩ := TPattern.vals hv'
  clear hv hv'
  by_cases h1 : vars < 0
  · have HE := hide (okP_lo (t := .mk x0 x1 x2 x3 x4 x5) h1)
    have f1 : decide (0 ≤ vars) = false := by simp; omega
    go_enter Try.func36, Try.ntmps36
    go_wp2_with (fail)
    all_goals
      go_returns
      exact ⟨ret_bool HE.out.symm, bl⟩
  by_cases h2 : 24 < vars
  · have HE := hide (okP_hi (t := .mk x0 x1 x2 x3 x4 x5) h2)
    have f1 : decide (0 ≤ vars) = true := by simp; omega
    have f2 : decide (vars ≤ 24) = false := by simp; omega
    go_enter Try.func36, Try.ntmps36
    go_wp2_with (fail)
    all_goals
      go_returns
      exact ⟨ret_bool HE.out.symm, bl⟩
  have f1 : decide (0 ≤ vars) = true := by simp; omega
  have f2 : decide (vars ≤ 24) = true := by simp; omega
  by_cases h3 : (TPattern.mk x0 x1 x2 x3 x4 x5).cnt ≤ 300
  · have HE := hide (okP_yes (t := .mk x0 x1 x2 x3 x4 x5) (show 0 ≤ vars by omega) (show vars ≤ 24 by omega) h3)
    have HZ := hide (szL_yes (m := (TPattern.mk x0 x1 x2 x3 x4 x5).cnt) (left := 300) (by omega))
    have f3 : decide (0 ≤ (300 : Int) - ((TPattern.mk x0 x1 x2 x3 x4 x5).cnt : Nat)) = true := by simp; omega
    generalize hG : (300 : Int) - ((TPattern.mk x0 x1 x2 x3 x4 x5).cnt : Nat) = G at HZ f3
    have H3 := hide h3
    clear hG h3
    go_enter Try.func36, Try.ntmps36
    go_wp2_with (fail)
    refine (l18Left_any _ _ _ _ _ (Dat.HoldVals.bel bl HV.out) (by omega) (by omega)).mono ?_
    rintro e w1 ⟨rfl, hb1⟩
    rw [HZ.out]
    (have hz1 := hb1.sz; obtain ⟨hk1_0, hf1_0, hl1_0, hn1_0⟩ := hb1.lay (w.heap.size))
    go_wp2_with (fail)
    refine (l18Valid_any vars (by omega) _ _ _ _ (Dat.HoldVals.bel bl HV.out)).mono ?_
    rintro e w2 ⟨rfl, hb2⟩
    go_wp2_with (fail)
    all_goals
      go_returns
      exact ⟨ret_bool HE.out.symm, bl⟩
  · have HE := hide (okP_cnt (vars := vars) (t := .mk x0 x1 x2 x3 x4 x5) (by omega))
    have HZ := hide (szL_no (m := (TPattern.mk x0 x1 x2 x3 x4 x5).cnt) (left := 300) (by omega))
    have H3 := hide h3
    clear h3
    go_enter Try.func36, Try.ntmps36
    go_wp2_with (fail)
    refine (l18Left_any _ _ _ _ _ (Dat.HoldVals.bel bl HV.out) (by omega) (by omega)).mono ?_
    rintro e w1 ⟨rfl, hb1⟩
    rw [HZ.out]
    go_wp2_with (fail)
    all_goals
      go_returns
      exact ⟨ret_bool HE.out.symm, bl⟩
set_option maxHeartbeats 400000 in
theorem implIsValidPattern_any (vars : Int) (t : TPattern) (S : Nat → Prop) (w : World) (vs : List Value) (hv : Dat.HoldVals w S t.D vs) (hwt : t.cnt ≤ 2000000) :
    Calls Try.prog 33 #[.agg vs.toArray, .int .i64 vars] w fun e w' => e = .returned (.bool (okP vars t)) ∧ Bel w w' := by
  have HV := hide hv
  have hv' := hv
  obtain ⟨x0, x1, x2, x3, x4, x5⟩ := t
  obtain ⟨A, c, rfl, -⟩ := TPattern.vals hv'
  clear hv hv'
  have HW := hide hwt
  clear hwt
  by_cases h1 : vars < 0
  · have HE := hide (okP_lo (t := .mk x0 x1 x2 x3 x4 x5) h1)
    have f1 : decide (0 ≤ vars) = false := by simp; omega
    go_enter Try.func33, Try.ntmps33
    go_wp2_with (fail)
    all_goals
      go_returns
      exact ⟨ret_bool HE.out.symm, bl⟩
  by_cases h2 : 24 < vars
  · have HE := hide (okP_hi (t := .mk x0 x1 x2 x3 x4 x5) h2)
    have f1 : decide (0 ≤ vars) = true := by simp; omega
    have f2 : decide (vars ≤ 24) = false := by simp; omega
    go_enter Try.func33, Try.ntmps33
    go_wp2_with (fail)
    all_goals
      go_returns
      exact ⟨ret_bool HE.out.symm, bl⟩
  have f1 : decide (0 ≤ vars) = true := by simp; omega
  have f2 : decide (vars ≤ 24) = true := by simp; omega
  by_cases h3 : (TPattern.mk x0 x1 x2 x3 x4 x5).cnt ≤ 300
  · have HE := hide (okP_yes (t := .mk x0 x1 x2 x3 x4 x5) (show 0 ≤ vars by omega) (show vars ≤ 24 by omega) h3)
    have f3 : decide (((TPattern.mk x0 x1 x2 x3 x4 x5).cnt : Int) ≤ 300) = true := by simp; omega
    have H3 := hide h3
    clear h3
    go_enter Try.func33, Try.ntmps33
    go_wp2_with (fail)
    refine (implCountPattern_any _ _ _ _ (Dat.HoldVals.bel bl HV.out) HW.out).mono ?_
    rintro e w1 ⟨rfl, hb1⟩
    (have hz1 := hb1.sz; obtain ⟨hk1_0, hf1_0, hl1_0, hn1_0⟩ := hb1.lay (w.heap.size))
    go_wp2_with (fail)
    refine (validPattern_any vars (by omega) _ _ _ _ (Dat.HoldVals.bel bl HV.out)).mono ?_
    rintro e w2 ⟨rfl, hb2⟩
    go_wp2_with (fail)
    all_goals
      go_returns
      exact ⟨ret_bool HE.out.symm, bl⟩
  · have HE := hide (okP_cnt (vars := vars) (t := .mk x0 x1 x2 x3 x4 x5) (by omega))
    have f3 : decide (((TPattern.mk x0 x1 x2 x3 x4 x5).cnt : Int) ≤ 300) = false := by simp; omega
    have H3 := hide h3
    clear h3
    go_enter Try.func33, Try.ntmps33
    go_wp2_with (fail)
    refine (implCountPattern_any _ _ _ _ (Dat.HoldVals.bel bl HV.out) HW.out).mono ?_
    rintro e w1 ⟨rfl, hb1⟩
    go_wp2_with (fail)
    all_goals
      go_returns
      exact ⟨ret_bool HE.out.symm, bl⟩
end Go.Proofs.Ytdjbfneniohaaaa
