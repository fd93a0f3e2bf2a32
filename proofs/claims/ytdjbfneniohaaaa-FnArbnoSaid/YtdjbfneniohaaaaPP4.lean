/- What the laws of CountPattern want of the two sides. -/
import Derived.Test.YtdjbfneniohaaaaPP1
import Derived.Test.YtdjbfneniohaaaaPP8
import Derived.Test.YtdjbfneniohaaaaPP10
namespace Go.Proofs.Ytdjbfneniohaaaa
set_option linter.unusedVariables false
set_option linter.unusedSimpArgs false
set_option maxRecDepth 100000
open Go.RowKit
def okP (vars : Int) (t : TPattern) : Bool := decide (0 ≤ vars) && (decide (vars ≤ 24) && (decide (t.cnt ≤ 300) && t.vld vars))
theorem okP_lo {vars : Int} {t : TPattern} (h : vars < 0) : okP vars t = false := by unfold okP; rw [show decide (0 ≤ vars) = false by simp; omega]; rfl
theorem okP_hi {vars : Int} {t : TPattern} (h : 24 < vars) : okP vars t = false := by unfold okP; rw [show decide (vars ≤ 24) = false by simp; omega]; simp
theorem okP_cnt {vars : Int} {t : TPattern} (h : 300 < t.cnt) : okP vars t = false := by unfold okP; rw [show decide (t.cnt ≤ 300) = false by simp; omega]; simp
theorem okP_yes {vars : Int} {t : TPattern} (h : 0 ≤ vars) (h1 : vars ≤ 24) (h2 : t.cnt ≤ 300) : okP vars t = t.vld vars := by unfold okP; simp [h, h1, h2]
set_option maxHeartbeats 400000 in
theorem specIsValidPattern_any (vars : Int) (t : TPattern) (S : Nat → Prop) (w : World) (vs : List Value) (hv : Dat.HoldVals w S t.D vs) :
  Calls Try.prog 36 #[.agg vs.toArray, .int .i64 vars] w fun e w' => e = .returned (.bool (okP vars t)) ∧ Bel w w' := by
 have HV := hide hv
 have hv' := hv
 obtain ⟨x0, x1, x2, x3, x4, x5⟩ := t
 obtain ⟨A, c, rfl, -⟩ := TPattern.vals hv'
 clear hv hv'
 by_cases h1 : vars < 0
 ·
  have HE := hide (okP_lo (t := .mk x0 x1 x2 x3 x4 x5) h1)
  have f1 : decide (0 ≤ vars) = false := by simp; omega
  go_enter Try.func36, Try.ntmps36
  go_wp2_with (fail)
  all_goals
   go_returns
   exact ⟨ret_bool HE.out.symm, bl⟩
 by_cases h2 : 24 < vars
 ·
  have HE := hide (okP_hi (t := .mk x0 x1 x2 x3 x4 x5) h2)
  have f1 : decide (0 ≤ vars) = true := by simp; omega
  have f2 : decide (vars ≤ 24) = false := by simp; omega
  go_enter Try.func36, Try.ntmps36
  go_wp2_with (fail)
  all_goals
   go_returns
   exact ⟨ret_bool HE.out.symm, bl⟩
 have f1 : decide (0 ≤ vars) = true := by simp; omega
 have f2 : decide (vars ≤ 24) = true := by simp; omega
 by_cases h3 : (TPattern.mk x0 x1 x2 x3 x4 x5).cnt ≤ 300
 ·
  have HE := hide (okP_yes (t := .mk x0 x1 x2 x3 x4 x5) (show 0 ≤ vars by omega) (show vars ≤ 24 by omega) h3)
  have HZ := hide (szL_yes (m := (TPattern.mk x0 x1 x2 x3 x4 x5).cnt) (left := 300) (by omega))
  have f3 : decide (0 ≤ (300 : Int) - ((TPattern.mk x0 x1 x2 x3 x4 x5).cnt : Nat)) = true := by simp; omega
  generalize hG : (300 : Int) - ((TPattern.mk x0 x1 x2 x3 x4 x5).cnt : Nat) = G at HZ f3
  have H3 := hide h3
  clear hG h3
  go_enter Try.func36, Try.ntmps36
  go_wp2_with (fail)
  refine (l18Left_any _ _ _ _ _ (Dat.HoldVals.bel bl HV.out) (by omega) (by omega)).mono ?_
  rintro e w1 ⟨rfl, hb1⟩
  rw [HZ.out]
  (have hz1 := hb1.sz; obtain ⟨hk1_0, hf1_0, hl1_0, hn1_0⟩ := hb1.lay (w.heap.size))
  go_wp2_with (fail)
  refine (l18Valid_any vars (by omega) _ _ _ _ (Dat.HoldVals.bel bl HV.out)).mono ?_
  rintro e w2 ⟨rfl, hb2⟩
  go_wp2_with (fail)
  all_goals
   go_returns
   exact ⟨ret_bool HE.out.symm, bl⟩
 ·
  have HE := hide (okP_cnt (vars := vars) (t := .mk x0 x1 x2 x3 x4 x5) (by omega))
  have HZ := hide (szL_no (m := (TPattern.mk x0 x1 x2 x3 x4 x5).cnt) (left := 300) (by omega))
  have H3 := hide h3
  clear h3
  go_enter Try.func36, Try.ntmps36
  go_wp2_with (fail)
  refine (l18Left_any _ _ _ _ _ (Dat.HoldVals.bel bl HV.out) (by omega) (by omega)).mono ?_
  rintro e w1 ⟨rfl, hb1⟩
  rw [HZ.out]
  go_wp2_with (fail)
  all_goals
   go_returns
   exact ⟨ret_bool HE.out.symm, bl⟩
set_option maxHeartbeats 400000 in
theorem implIsValidPattern_any (vars : Int) (t : TPattern) (S : Nat → Prop) (w : World) (vs : List Value) (hv : Dat.HoldVals w S t.D vs) (hwt : t.cnt ≤ 2000000) :
  Calls Try.prog 33 #[.agg vs.toArray, .int .i64 vars] w fun e w' => e = .returned (.bool (okP vars t)) ∧ Bel w w' := by
 have HV := hide hv
 have hv' := hv
 obtain ⟨x0, x1, x2, x3, x4, x5⟩ := t
 obtain ⟨A, c, rfl, -⟩ := TPattern.vals hv'
 clear hv hv'
 have HW := hide hwt
 clear hwt
 by_cases h1 : vars < 0
 ·
  have HE := hide (okP_lo (t := .mk x0 x1 x2 x3 x4 x5) h1)
  have f1 : decide (0 ≤ vars) = false := by simp; omega
  go_enter Try.func33, Try.ntmps33
  go_wp2_with (fail)
  all_goals
   go_returns
   exact ⟨ret_bool HE.out.symm, bl⟩
 by_cases h2 : 24 < vars
 ·
  have HE := hide (okP_hi (t := .mk x0 x1 x2 x3 x4 x5) h2)
  have f1 : decide (0 ≤ vars) = true := by simp; omega
  have f2 : decide (vars ≤ 24) = false := by simp; omega
  go_enter Try.func33, Try.ntmps33
  go_wp2_with (fail)
  all_goals
   go_returns
   exact ⟨ret_bool HE.out.symm, bl⟩
 have f1 : decide (0 ≤ vars) = true := by simp; omega
 have f2 : decide (vars ≤ 24) = true := by simp; omega
 by_cases h3 : (TPattern.mk x0 x1 x2 x3 x4 x5).cnt ≤ 300
 ·
  have HE := hide (okP_yes (t := .mk x0 x1 x2 x3 x4 x5) (show 0 ≤ vars by omega) (show vars ≤ 24 by omega) h3)
  have f3 : decide (((TPattern.mk x0 x1 x2 x3 x4 x5).cnt : Int) ≤ 300) = true := by simp; omega
  have H3 := hide h3
  clear h3
  go_enter Try.func33, Try.ntmps33
  go_wp2_with (fail)
  refine (implCountPattern_any _ _ _ _ (Dat.HoldVals.bel bl HV.out) HW.out).mono ?_
  rintro e w1 ⟨rfl, hb1⟩
  (have hz1 := hb1.sz; obtain ⟨hk1_0, hf1_0, hl1_0, hn1_0⟩ := hb1.lay (w.heap.size))
  go_wp2_with (fail)
  refine (validPattern_any vars (by omega) _ _ _ _ (Dat.HoldVals.bel bl HV.out)).mono ?_
  rintro e w2 ⟨rfl, hb2⟩
  go_wp2_with (fail)
  all_goals
   go_returns
   exact ⟨ret_bool HE.out.symm, bl⟩
 ·
  have HE := hide (okP_cnt (vars := vars) (t := .mk x0 x1 x2 x3 x4 x5) (by omega))
  have f3 : decide (((TPattern.mk x0 x1 x2 x3 x4 x5).cnt : Int) ≤ 300) = false := by simp; omega
  have H3 := hide h3
  clear h3
  go_enter Try.func33, Try.ntmps33
  go_wp2_with (fail)
  refine (implCountPattern_any _ _ _ _ (Dat.HoldVals.bel bl HV.out) HW.out).mono ?_
  rintro e w1 ⟨rfl, hb1⟩
  go_wp2_with (fail)
  all_goals
   go_returns
   exact ⟨ret_bool HE.out.symm, bl⟩
end Go.Proofs.Ytdjbfneniohaaaa
namespace Go.Proofs.Ytdjbfneniohaaaa
set_option linter.unusedVariables false
set_option linter.unusedSimpArgs false
set_option maxRecDepth 100000
open Go.RowKit
theorem okP_vld {vars : Int} {t : TPattern} (h : okP vars t = true) : 0 ≤ vars ∧ vars ≤ 24 ∧ t.cnt ≤ 300 ∧ t.vld vars = true := by
 simpa [okP] using h
def leastR (t : TPattern) : Int := if okP 24 t then t.least else 0
end Go.Proofs.Ytdjbfneniohaaaa
namespace Go.Proofs.Ytdjbfneniohaaaa
set_option linter.unusedVariables false
set_option linter.unusedSimpArgs false
set_option maxRecDepth 100000
open Go.RowKit
mutual
def TPattern.stop : TPattern → Bool
 | .mk op _ _ _ _ ks => decide (op = 19 ∨ op = 21) || TPattern.stops ks
def TPattern.stops : List TPattern → Bool
 | [] => false
 | x :: r => TPattern.stop x || TPattern.stops r
end
def okDs (vars : Int) (ds : List TPattern) : Bool := ds.all (okP vars)
def okD (ds : List TPattern) (t : TPattern) : Bool := decide (ds.length ≤ 24) && (okP ds.length t && okDs ds.length ds)
theorem okDs_yes {vars : Int} {l : List TPattern} {k : Nat} (h : k < l.length) (h1 : okDs vars (l.take k) = true) (h2 : okP vars l[k] = true) : okDs vars (l.take (k + 1)) = true := by
 unfold okDs at *
 rw [take_snoc h, List.all_append, h1]
 simp [h2]
theorem okDs_no {vars : Int} {l : List TPattern} {k : Nat} (h : k < l.length) (h2 : okP vars l[k] = false) : okDs vars l = false := by
 unfold okDs
 rw [List.all_eq_false]
 exact ⟨l[k], List.getElem_mem _, by simp [h2]⟩
set_option maxHeartbeats 1000000 in
theorem l18Defs_any (ds : List TPattern) (t : TPattern) (S S' : Nat → Prop) (w : World) (A : Option Addr) (c : Nat) (vs : List Value) (hR : Row w S 6 A c (ds.map TPattern.D)) (hv : Dat.HoldVals w S' t.D vs) (hct : t.cnt ≤ 2000000) (hcs : ∀ (k : Nat) (h : k < ds.length), ds[k].cnt ≤ 2000000) :
  Calls Try.prog 30 #[.slice A ds.length c, .agg vs.toArray] w fun e w' => e = .returned (.bool (okD ds t)) ∧ Bel w w' := by
 have HV := hide hv
 have hv' := hv
 obtain ⟨y0, y1, y2, y3, y4, y5⟩ := t
 obtain ⟨A0, c0, rfl, -⟩ := TPattern.vals hv'
 have HR := hide hR
 have hlc := HR.out.1
 have hcm := HR.out.2.1
 simp only [List.length_map] at hlc
 unfold maxLen at hcm
 have HCT := hide hct
 have HCS := hide hcs
 clear hR hv hv' hct hcs
 by_cases h24 : 24 < ds.length
 ·
  have d24 : decide ((24 : Int) < (ds.length : Int)) = true := by simp; omega
  have HE : Hid (okD ds (.mk y0 y1 y2 y3 y4 y5) = false) := by show _ = _; unfold okD; rw [show decide (ds.length ≤ 24) = false by simp; omega]; rfl
  go_enter Try.func30, Try.ntmps30
  go_wp2_with (fail)
  all_goals
   go_returns
   exact ⟨ret_bool HE.out.symm, bl⟩
 have d24 : decide ((24 : Int) < (ds.length : Int)) = false := by simp; omega
 cases hk0 : okP ds.length (TPattern.mk y0 y1 y2 y3 y4 y5)
 ·
  have HE : Hid (okD ds (.mk y0 y1 y2 y3 y4 y5) = false) := by show _ = _; unfold okD; rw [hk0]; simp
  have HK0 := hide hk0
  clear hk0
  go_enter Try.func30, Try.ntmps30
  go_wp2_with (fail)
  refine (specIsValidPattern_any _ _ _ _ _ (Dat.HoldVals.bel bl HV.out)).mono ?_
  rintro e w1 ⟨rfl, hb1⟩
  rw [HK0.out]
  go_wp2_with (fail)
  all_goals
   go_returns
   exact ⟨ret_bool HE.out.symm, bl⟩
 have HE : Hid (okD ds (.mk y0 y1 y2 y3 y4 y5) = okDs ds.length ds) := by show _ = _; unfold okD; rw [hk0, show decide (ds.length ≤ 24) = true by simp; omega]; simp
 have HK0 := hide hk0
 clear hk0
 go_enter Try.func30, Try.ntmps30
 go_wp2_with (fail)
 refine (specIsValidPattern_any _ _ _ _ _ (Dat.HoldVals.bel bl HV.out)).mono ?_
 rintro e w1 ⟨rfl, hb1⟩
 rw [HK0.out]
 have hbw1 : Bel w w1 := bl
 clear hb1
 go_wp2_with (fail)
 go_loopw [5] (fun iv wr => ∃ k : Nat, k ≤ ds.length ∧ iv = .int .i64 k ∧ Hid (okDs ds.length (ds.take k) = true) ∧ Bel w wr) (fun iv _ => ds.length - (intOf iv).toNat)
 case atStart => exact ⟨0, Nat.zero_le _, rfl, hide (by simp [okDs]), bl⟩
 case round =>
  obtain ⟨k, hk, rfl, HT, hbw⟩ := hrel
  rcases Nat.lt_or_ge k ds.length with hlt | hge
  ·
   have hd : decide ((k : Int) < (ds.length : Int)) = true := by simp; omega
   (obtain ⟨b1, o1, x1_0, x1_1, x1_2, x1_3, x1_4, x1_5, A1_5, C1_5, hA1, hS1, hl1, hx1, hv1, g1_0, g1_1, g1_2, g1_3, g1_4, g1_5, c1_0, c1_1, c1_2, c1_3, c1_4, c1_5⟩ := TPattern.at HR.out k hlt; subst hA1; have HV1 := hide (Dat.HoldVals.bel hbw hv1); have hh1 := hbw.box b1 hl1; have hw1 := Nat.lt_of_lt_of_le hl1 (Bel.size hbw); replace c1_0 := (hh1 _).trans c1_0; replace c1_1 := (hh1 _).trans c1_1; replace c1_2 := (hh1 _).trans c1_2; replace c1_3 := (hh1 _).trans c1_3; replace c1_4 := (hh1 _).trans c1_4; replace c1_5 := (hh1 _).trans c1_5; have HX1 := hide hx1; have GR1_5 := hide g1_5; clear hh1 hv1 hx1 hS1 g1_5)
   cases hvk : okP ds.length ds[k]
   ·
    have HK := hide hvk
    clear hvk
    go_wp2_with (fail)
    refine (specIsValidPattern_any _ _ _ _ _ (Dat.HoldVals.bel bl HV1.out)).mono ?_
    rintro e w2 ⟨rfl, hb2⟩
    rw [HK.out]
    go_wp2_with (fail)
    all_goals
     go_returns
     exact ⟨ret_bool (HE.out.trans (okDs_no hlt HK.out)).symm, bl⟩
   ·
    have HK := hide hvk
    clear hvk
    go_wp2_with (fail)
    refine (specIsValidPattern_any _ _ _ _ _ (Dat.HoldVals.bel bl HV1.out)).mono ?_
    rintro e w2 ⟨rfl, hb2⟩
    rw [HK.out]
    go_wp2_with (fail)
    all_goals
     go_roundw
     case rel => exact ⟨k + 1, by omega, by go_num, hide (okDs_yes hlt HT.out HK.out), bl⟩
     case measure => simp [intOf]; omega
  ·
   have hd : decide ((k : Int) < (ds.length : Int)) = false := by simp; omega
   go_wp2_with (fail)
   go_returns
   exact ⟨ret_bool (by rw [HE.out]; have := HT.out; rw [List.take_of_length_le (by omega)] at this; exact this.symm), hbw⟩
set_option maxHeartbeats 1000000 in
theorem validDefinitions_any (ds : List TPattern) (t : TPattern) (S S' : Nat → Prop) (w : World) (A : Option Addr) (c : Nat) (vs : List Value) (hR : Row w S 6 A c (ds.map TPattern.D)) (hv : Dat.HoldVals w S' t.D vs) (hct : t.cnt ≤ 2000000) (hcs : ∀ (k : Nat) (h : k < ds.length), ds[k].cnt ≤ 2000000) :
  Calls Try.prog 28 #[.slice A ds.length c, .agg vs.toArray] w fun e w' => e = .returned (.bool (okD ds t)) ∧ Bel w w' := by
 have HV := hide hv
 have hv' := hv
 obtain ⟨y0, y1, y2, y3, y4, y5⟩ := t
 obtain ⟨A0, c0, rfl, -⟩ := TPattern.vals hv'
 have HR := hide hR
 have hlc := HR.out.1
 have hcm := HR.out.2.1
 simp only [List.length_map] at hlc
 unfold maxLen at hcm
 have HCT := hide hct
 have HCS := hide hcs
 clear hR hv hv' hct hcs
 by_cases h24 : 24 < ds.length
 ·
  have d24 : decide ((24 : Int) < (ds.length : Int)) = true := by simp; omega
  have HE : Hid (okD ds (.mk y0 y1 y2 y3 y4 y5) = false) := by show _ = _; unfold okD; rw [show decide (ds.length ≤ 24) = false by simp; omega]; rfl
  go_enter Try.func28, Try.ntmps28
  go_wp2_with (fail)
  all_goals
   go_returns
   exact ⟨ret_bool HE.out.symm, bl⟩
 have d24 : decide ((24 : Int) < (ds.length : Int)) = false := by simp; omega
 cases hk0 : okP ds.length (TPattern.mk y0 y1 y2 y3 y4 y5)
 ·
  have HE : Hid (okD ds (.mk y0 y1 y2 y3 y4 y5) = false) := by show _ = _; unfold okD; rw [hk0]; simp
  have HK0 := hide hk0
  clear hk0
  go_enter Try.func28, Try.ntmps28
  go_wp2_with (fail)
  refine (implIsValidPattern_any _ _ _ _ _ (Dat.HoldVals.bel bl HV.out) HCT.out).mono ?_
  rintro e w1 ⟨rfl, hb1⟩
  rw [HK0.out]
  go_wp2_with (fail)
  all_goals
   go_returns
   exact ⟨ret_bool HE.out.symm, bl⟩
 have HE : Hid (okD ds (.mk y0 y1 y2 y3 y4 y5) = okDs ds.length ds) := by show _ = _; unfold okD; rw [hk0, show decide (ds.length ≤ 24) = true by simp; omega]; simp
 have HK0 := hide hk0
 clear hk0
 go_enter Try.func28, Try.ntmps28
 go_wp2_with (fail)
 refine (implIsValidPattern_any _ _ _ _ _ (Dat.HoldVals.bel bl HV.out) HCT.out).mono ?_
 rintro e w1 ⟨rfl, hb1⟩
 rw [HK0.out]
 have hbw1 : Bel w w1 := bl
 clear hb1
 go_wp2_with (fail)
 go_loopw [19] (fun iv wr => ∃ k : Nat, k ≤ ds.length ∧ iv = .int .i64 k ∧ Hid (okDs ds.length (ds.take k) = true) ∧ Bel w wr) (fun iv _ => ds.length - (intOf iv).toNat)
 case atStart => exact ⟨0, Nat.zero_le _, rfl, hide (by simp [okDs]), bl⟩
 case round =>
  obtain ⟨k, hk, rfl, HT, hbw⟩ := hrel
  rcases Nat.lt_or_ge k ds.length with hlt | hge
  ·
   have hd : decide ((k : Int) < (ds.length : Int)) = true := by simp; omega
   (obtain ⟨b1, o1, x1_0, x1_1, x1_2, x1_3, x1_4, x1_5, A1_5, C1_5, hA1, hS1, hl1, hx1, hv1, g1_0, g1_1, g1_2, g1_3, g1_4, g1_5, c1_0, c1_1, c1_2, c1_3, c1_4, c1_5⟩ := TPattern.at HR.out k hlt; subst hA1; have HV1 := hide (Dat.HoldVals.bel hbw hv1); have hh1 := hbw.box b1 hl1; have hw1 := Nat.lt_of_lt_of_le hl1 (Bel.size hbw); replace c1_0 := (hh1 _).trans c1_0; replace c1_1 := (hh1 _).trans c1_1; replace c1_2 := (hh1 _).trans c1_2; replace c1_3 := (hh1 _).trans c1_3; replace c1_4 := (hh1 _).trans c1_4; replace c1_5 := (hh1 _).trans c1_5; have HX1 := hide hx1; have GR1_5 := hide g1_5; clear hh1 hv1 hx1 hS1 g1_5)
   cases hvk : okP ds.length ds[k]
   ·
    have HK := hide hvk
    clear hvk
    go_wp2_with (fail)
    refine (implIsValidPattern_any _ _ _ _ _ (Dat.HoldVals.bel bl HV1.out) (HCS.out k hlt)).mono ?_
    rintro e w2 ⟨rfl, hb2⟩
    rw [HK.out]
    go_wp2_with (fail)
    all_goals
     go_returns
     exact ⟨ret_bool (HE.out.trans (okDs_no hlt HK.out)).symm, bl⟩
   ·
    have HK := hide hvk
    clear hvk
    go_wp2_with (fail)
    refine (implIsValidPattern_any _ _ _ _ _ (Dat.HoldVals.bel bl HV1.out) (HCS.out k hlt)).mono ?_
    rintro e w2 ⟨rfl, hb2⟩
    rw [HK.out]
    go_wp2_with (fail)
    all_goals
     go_roundw
     case rel => exact ⟨k + 1, by omega, by go_num, hide (okDs_yes hlt HT.out HK.out), bl⟩
     case measure => simp [intOf]; omega
  ·
   have hd : decide ((k : Int) < (ds.length : Int)) = false := by simp; omega
   go_wp2_with (fail)
   go_returns
   exact ⟨ret_bool (by rw [HE.out]; have := HT.out; rw [List.take_of_length_le (by omega)] at this; exact this.symm), hbw⟩
end Go.Proofs.Ytdjbfneniohaaaa
