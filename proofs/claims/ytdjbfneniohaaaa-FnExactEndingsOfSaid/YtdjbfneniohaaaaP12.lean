/- May a match be stopped: both sides. -/
import Derived.Test.YtdjbfneniohaaaaP11
namespace Go.Proofs.Ytdjbfneniohaaaa
set_option linter.unusedVariables false
set_option linter.unusedSimpArgs false
set_option maxRecDepth 100000
open Go.RowKit

mutual
def TPattern.stop : TPattern → Bool
  | .mk op _ _ _ _ ks => decide (op = 19 ∨ op = 21) || TPattern.stops ks
def TPattern.stops : List TPattern → Bool
  | [] => false
  | x :: r => TPattern.stop x || TPattern.stops r
end
theorem TPattern.stops_take : ∀ (l : List TPattern) (k : Nat) (h : k < l.length), TPattern.stops (l.take (k + 1)) = (TPattern.stops (l.take k) || l[k].stop)
  | x :: r, 0, _ => by simp [TPattern.stops]
  | x :: r, k + 1, h => by
    have := TPattern.stops_take r k (by simpa using h)
    simp only [List.take_succ_cons, TPattern.stops, List.getElem_cons_succ, this, Bool.or_assoc]
theorem TPattern.stops_no {l : List TPattern} {k : Nat} (h : k < l.length) (h1 : TPattern.stops (l.take k) = false) (h2 : l[k].stop = false) : TPattern.stops (l.take (k + 1)) = false := by
  rw [TPattern.stops_take l k h, h1, h2]; rfl
theorem TPattern.stops_yes : ∀ {l : List TPattern} {k : Nat} (h : k < l.length), l[k].stop = true → TPattern.stops l = true
  | x :: r, 0, _, h => by simp at h; simp [TPattern.stops, h]
  | x :: r, k + 1, hk, h => by
    have := TPattern.stops_yes (l := r) (k := k) (by simpa using hk) (by simpa using h)
    simp [TPattern.stops, this]
abbrev StopC (f : FuncId) (t : TPattern) : Prop := ∀ (S : Nat → Prop) (w : World) (vs : List Value), Dat.HoldVals w S t.D vs →
  Calls Try.prog f #[.agg vs.toArray] w fun e w' => e = .returned (.bool t.stop) ∧ Bel w w'

/-- The definitions of a match are valid. -/
def okDs (vars : Int) (ds : List TPattern) : Bool := ds.all (okP vars)
def okD (ds : List TPattern) (t : TPattern) : Bool := decide (ds.length ≤ 24) && (okP ds.length t && okDs ds.length ds)
theorem okDs_yes {vars : Int} {l : List TPattern} {k : Nat} (h : k < l.length) (h1 : okDs vars (l.take k) = true) (h2 : okP vars l[k] = true) : okDs vars (l.take (k + 1)) = true := by
  unfold okDs at *
  rw [take_snoc h, List.all_append, h1]
  simp [h2]
theorem okDs_no {vars : Int} {l : List TPattern} {k : Nat} (h : k < l.length) (h2 : okP vars l[k] = false) : okDs vars l = false := by
  unfold okDs
  rw [List.all_eq_false]
  exact ⟨l[k], List.getElem_mem _, by simp [h2]⟩
set_option maxHeartbeats 1000000 in
theorem l18Defs_any (ds : List TPattern) (t : TPattern) (S S' : Nat → Prop) (w : World) (A : Option Addr) (c : Nat) (vs : List Value) (hR : Row w S 6 A c (ds.map TPattern.D)) (hv : Dat.HoldVals w S' t.D vs) (hct : t.cnt ≤ 2000000) (hcs : ∀ (k : Nat) (h : k < ds.length), ds[k].cnt ≤ 2000000) :
    Calls Try.prog 30 #[.slice A ds.length c, .agg vs.toArray] w fun e w' => e = .returned (.bool (okD ds t)) ∧ Bel w w' := by
  have HV := hide hv
  have hv' := hv
  obtain ⟨y0, y1, y2, y3, y4, y5⟩ := t
  obtain ⟨A0, c0, rfl, -⟩ := TPattern.vals hv'
  have HR := hide hR
  have hlc := HR.out.1
  have hcm := HR.out.2.1
  simp only [List.length_map] at hlc
  unfold maxLen at hcm
  have HCT := hide hct
  have HCS := hide hcs
  clear hR hv hv' hct hcs
  by_cases h24 : 24 < ds.length
  · have d24 : decide ((24 : Int) < (ds.length : Int)) = true := by simp; omega
    have HE : Hid (okD ds (.mk y0 y1 y2 y3 y4 y5) = false) := by show _ = _; unfold okD; rw [show decide (ds.length ≤ 24) = false by simp; omega]; rfl
    go_enter Try.func30, Try.ntmps30
    go_wp2_with (fail)
    all_goals
      go_returns
      exact ⟨ret_bool HE.out.symm, bl⟩
  have d24 : decide ((24 : Int) < (ds.length : Int)) = false := by simp; omega
  cases hk0 : okP ds.length (TPattern.mk y0 y1 y2 y3 y4 y5)
  · have HE : Hid (okD ds (.mk y0 y1 y2 y3 y4 y5) = false) := by show _ = _; unfold okD; rw [hk0]; simp
    have HK0 := hide hk0
    clear hk0
    go_enter Try.func30, Try.ntmps30
    go_wp2_with (fail)
    refine (specIsValidPattern_any _ _ _ _ _ (Dat.HoldVals.bel bl HV.out)).mono ?_
    rintro e w1 ⟨rfl, hb1⟩
    rw [HK0.out]
    go_wp2_with (fail)
    all_goals
      go_returns
      exact ⟨ret_bool HE.out.symm, bl⟩
  have HE : Hid (okD ds (.mk y0 y1 y2 y3 y4 y5) = okDs ds.length ds) := by show _ = _; unfold okD; rw [hk0, show decide (ds.length ≤ 24) = true by simp; omega]; simp
  have HK0 := hide hk0
  clear hk0
  go_enter Try.func30, Try.ntmps30
  go_wp2_with (fail)
  refine (specIsValidPattern_any _ _ _ _ _ (Dat.HoldVals.bel bl HV.out)).mono ?_
  rintro e w1 ⟨rfl, hb1⟩
  rw [HK0.out]
  have hbw1 : Bel w w1 := bl
  clear hb1
  go_wp2_with (fail)
  go_loopw [5] (fun iv wr => ∃ k : Nat, k ≤ ds.length ∧ iv = .int .i64 k ∧ Hid (okDs ds.length (ds.take k) = true) ∧ Bel w wr) (fun iv _ => ds.length - (intOf iv).toNat)
  case atStart => exact ⟨0, Nat.zero_le _, rfl, hide (by simp [okDs]), bl⟩
  case round =>
    obtain ⟨k, hk, rfl, HT, hbw⟩ := hrel
    rcases Nat.lt_or_ge k ds.length with hlt | hge
    · have hd : decide ((k : Int) < (ds.length : Int)) = true := by simp; omega
      (obtain ⟨b1, o1, x1_0, x1_1, x1_2, x1_3, x1_4, x1_5, A1_5, C1_5, hA1, hS1, hl1, hx1, hv1, g1_0, g1_1, g1_2, g1_3, g1_4, g1_5, c1_0, c1_1, c1_2, c1_3, c1_4, c1_5⟩ := TPattern.at HR.out k hlt; subst hA1; have HV1 := hide (Dat.HoldVals.bel hbw hv1); have hh1 := hbw.box b1 hl1; have hw1 := Nat.lt_of_lt_of_le hl1 (Bel.size hbw); replace c1_0 := (hh1 _).trans c1_0; replace c1_1 := (hh1 _).trans c1_1; replace c1_2 := (hh1 _).trans c1_2; replace c1_3 := (hh1 _).trans c1_3; replace c1_4 := (hh1 _).trans c1_4; replace c1_5 := (hh1 _).trans c1_5; have HX1 := hide hx1; have GR1_5 := hide g1_5; clear hh1 hv1 hx1 hS1 g1_5)
      cases hvk : okP ds.length ds[k]
      · have HK := hide hvk
        clear hvk
        go_wp2_with (fail)
        refine (specIsValidPattern_any _ _ _ _ _ (Dat.HoldVals.bel bl HV1.out)).mono ?_
        rintro e w2 ⟨rfl, hb2⟩
        rw [HK.out]
        go_wp2_with (fail)
        all_goals
          go_returns
          exact ⟨ret_bool (HE.out.trans (okDs_no hlt HK.out)).symm, bl⟩
      · have HK := hide hvk
        clear hvk
        go_wp2_with (fail)
        refine (specIsValidPattern_any _ _ _ _ _ (Dat.HoldVals.bel bl HV1.out)).mono ?_
        rintro e w2 ⟨rfl, hb2⟩
        rw [HK.out]
        go_wp2_with (fail)
        all_goals
          go_roundw
          case rel => exact ⟨k + 1, by omega, by go_num, hide (okDs_yes hlt HT.out HK.out), bl⟩
          case measure => simp [intOf]; omega
    · have hd : decide ((k : Int) < (ds.length : Int)) = false := by simp; omega
      go_wp2_with (fail)
      go_returns
      exact ⟨ret_bool (by rw [HE.out]; have := HT.out; rw [List.take_of_length_le (by omega)] at this; exact this.symm), hbw⟩
set_option maxHeartbeats 1000000 in
theorem validDefinitions_any (ds : List TPattern) (t : TPattern) (S S' : Nat → Prop) (w : World) (A : Option Addr) (c : Nat) (vs : List Value) (hR : Row w S 6 A c (ds.map TPattern.D)) (hv : Dat.HoldVals w S' t.D vs) (hct : t.cnt ≤ 2000000) (hcs : ∀ (k : Nat) (h : k < ds.length), ds[k].cnt ≤ 2000000) :
    Calls Try.prog 28 #[.slice A ds.length c, .agg vs.toArray] w fun e w' => e = .returned (.bool (okD ds t)) ∧ Bel w w' := by
  have HV := hide hv
  have hv' := hv
  obtain ⟨y0, y1, y2, y3, y4, y5⟩ := t
  obtain ⟨A0, c0, rfl, -⟩ := TPattern.vals hv'
  have HR := hide hR
  have hlc := HR.out.1
  have hcm := HR.out.2.1
  simp only [List.length_map] at hlc
  unfold maxLen at hcm
  have HCT := hide hct
  have HCS := hide hcs
  clear hR hv hv' hct hcs
  by_cases h24 : 24 < ds.length
  · have d24 : decide ((24 : Int) < (ds.length : Int)) = true := by simp; omega
    have HE : Hid (okD ds (.mk y0 y1 y2 y3 y4 y5) = false) := by show _ = _; unfold okD; rw [show decide (ds.length ≤ 24) = false by simp; omega]; rfl
    go_enter Try.func28, Try.ntmps28
    go_wp2_with (fail)
    all_goals
      go_returns
      exact ⟨ret_bool HE.out.symm, bl⟩
  have d24 : decide ((24 : Int) < (ds.length : Int)) = false := by simp; omega
  cases hk0 : okP ds.length (TPattern.mk y0 y1 y2 y3 y4 y5)
  · have HE : Hid (okD ds (.mk y0 y1 y2 y3 y4 y5) = false) := by show _ = _; unfold okD; rw [hk0]; simp
    have HK0 := hide hk0
    clear hk0
    go_enter Try.func28, Try.ntmps28
    go_wp2_with (fail)
    refine (implIsValidPattern_any _ _ _ _ _ (Dat.HoldVals.bel bl HV.out) HCT.out).mono ?_
    rintro e w1 ⟨rfl, hb1⟩
    rw [HK0.out]
    go_wp2_with (fail)
    all_goals
      go_returns
      exact ⟨ret_bool HE.out.symm, bl⟩
  have HE : Hid (okD ds (.mk y0 y1 y2 y3 y4 y5) = okDs ds.length ds) := by show _ = _; unfold okD; rw [hk0, show decide (ds.length ≤ 24) = true by simp; omega]; simp
  have HK0 := hide hk0
  clear hk0
  go_enter Try.func28, Try.ntmps28
  go_wp2_with (fail)
  refine (implIsValidPattern_any _ _ _ _ _ (Dat.HoldVals.bel bl HV.out) HCT.out).mono ?_
  rintro e w1 ⟨rfl, hb1⟩
  rw [HK0.out]
  have hbw1 : Bel w w1 := bl
  clear hb1
  go_wp2_with (fail)
  go_loopw [19] (fun iv wr => ∃ k : Nat, k ≤ ds.length ∧ iv = .int .i64 k ∧ Hid (okDs ds.length (ds.take k) = true) ∧ Bel w wr) (fun iv _ => ds.length - (intOf iv).toNat)
  case atStart => exact ⟨0, Nat.zero_le _, rfl, hide (by simp [okDs]), bl⟩
  case round =>
    obtain ⟨k, hk, rfl, HT, hbw⟩ := hrel
    rcases Nat.lt_or_ge k ds.length with hlt | hge
    · have hd : decide ((k : Int) < (ds.length : Int)) = true := by simp; omega
      (obtain ⟨b1, o1, x1_0, x1_1, x1_2, x1_3, x1_4, x1_5, A1_5, C1_5, hA1, hS1, hl1, hx1, hv1, g1_0, g1_1, g1_2, g1_3, g1_4, g1_5, c1_0, c1_1, c1_2, c1_3, c1_4, c1_5⟩ := TPattern.at HR.out k hlt; subst hA1; have HV1 := hide (Dat.HoldVals.bel hbw hv1); have hh1 := hbw.box b1 hl1; have hw1 := Nat.lt_of_lt_of_le hl1 (Bel.size hbw); replace c1_0 := (hh1 _).trans c1_0; replace c1_1 := (hh1 _).trans c1_1; replace c1_2 := (hh1 _).trans c1_2; replace c1_3 := (hh1 _).trans c1_3; replace c1_4 := (hh1 _).trans c1_4; replace c1_5 := (hh1 _).trans c1_5; have HX1 := hide hx1; have GR1_5 := hide g1_5; clear hh1 hv1 hx1 hS1 g1_5)
      cases hvk : okP ds.length ds[k]
      · have HK := hide hvk
        clear hvk
        go_wp2_with (fail)
        refine (implIsValidPattern_any _ _ _ _ _ (Dat.HoldVals.bel bl HV1.out) (HCS.out k hlt)).mono ?_
        rintro e w2 ⟨rfl, hb2⟩
        rw [HK.out]
        go_wp2_with (fail)
        all_goals
          go_returns
          exact ⟨ret_bool (HE.out.trans (okDs_no hlt HK.out)).symm, bl⟩
      · have HK := hide hvk
        clear hvk
        go_wp2_with (fail)
        refine (implIsValidPattern_any _ _ _ _ _ (Dat.HoldVals.bel bl HV1.out) (HCS.out k hlt)).mono ?_
        rintro e w2 ⟨rfl, hb2⟩
        rw [HK.out]
        go_wp2_with (fail)
        all_goals
          go_roundw
          case rel => exact ⟨k + 1, by omega, by go_num, hide (okDs_yes hlt HT.out HK.out), bl⟩
          case measure => simp [intOf]; omega
    · have hd : decide ((k : Int) < (ds.length : Int)) = false := by simp; omega
      go_wp2_with (fail)
      go_returns
      exact ⟨ret_bool (by rw [HE.out]; have := HT.out; rw [List.take_of_length_le (by omega)] at this; exact this.symm), hbw⟩

/-- May a match be stopped? -/
def mayR (ds : List TPattern) (t : TPattern) : Bool := !okD ds t || (t.stop || TPattern.stops ds)
end Go.Proofs.Ytdjbfneniohaaaa
