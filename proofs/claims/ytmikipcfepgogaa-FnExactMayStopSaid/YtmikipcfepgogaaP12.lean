/- May a match be stopped: both sides. -/
import Derived.Test.YtmikipcfepgogaaP11
namespace Go.Proofs.Ytmikipcfepgogaa
set_option linter.unusedVariables false
set_option linter.unusedSimpArgs false
set_option maxRecDepth 100000
open Go.RowKit

mutual
def TPattern.stop : TPattern → Bool
  | .mk op _ _ _ _ ks => decide (op = 19 ∨ op = 21) || TPattern.stops ks
def TPattern.stops : List TPattern → Bool
  | [] => false
  | x :: r => TPattern.stop x || TPattern.stops r
end
theorem TPattern.stops_take : ∀ (l : List TPattern) (k : Nat) (h : k < l.length), TPattern.stops (l.take (k + 1)) = (TPattern.stops (l.take k) || l[k].stop)
  | x :: r, 0, _ => by simp [TPattern.stops]
  | x :: r, k + 1, h => by
    have := TPattern.stops_take r k (by simpa using h)
    simp only [List.take_succ_cons, TPattern.stops, List.getElem_cons_succ, this, Bool.or_assoc]
theorem TPattern.stops_no {l : List TPattern} {k : Nat} (h : k < l.length) (h1 : TPattern.stops (l.take k) = false) (h2 : l[k].stop = false) : TPattern.stops (l.take (k + 1)) = false := by
  rw [TPattern.stops_take l k h, h1, h2]; rfl
theorem TPattern.stops_yes : ∀ {l : List TPattern} {k : Nat} (h : k < l.length), l[k].stop = true → TPattern.stops l = true
  | x :: r, 0, _, h => by simp at h; simp [TPattern.stops, h]
  | x :: r, k + 1, hk, h => by
    have := TPattern.stops_yes (l := r) (k := k) (by simpa using hk) (by simpa using h)
    simp [TPattern.stops, this]
abbrev StopC (f : FuncId) (t : TPattern) : Prop := ∀ (S : Nat → Prop) (w : World) (vs : List Value), Dat.HoldVals w S t.D vs →
  Calls Try.prog f #[.agg vs.toArray] w fun e w' => e = .returned (.bool t.stop) ∧ Bel w w'

set_option maxHeartbeats 1000000 in
theorem l21Stops_any : ∀ t : TPattern, StopC 75 t := by
  refine TPattern.ind fun op t n lo hi ks IH => ?_
  intro S w vs hv
  obtain ⟨A, c, rfl, -, -, -, -, -, hR⟩ := TPattern.vals hv
  have IH' := hide IH
  have HR := hide hR
  have hlc := HR.out.1
  have hcm := HR.out.2.1
  simp only [List.length_map] at hlc
  unfold maxLen at hcm
  clear IH hR hv
  by_cases e19 : op = 19
  · subst e19
    go_enter Try.func75, Try.ntmps75
    go_wp2_with (fail)
    all_goals
      go_returns
      exact ⟨ret_bool (by simp [TPattern.stop]), (by repeat' (first | with_reducible exact Bel.refl _ | with_reducible assumption | with_reducible refine Bel.set ?_ ?_ _ | with_reducible refine Bel.alloc ?_ _ | with_reducible refine Bel.drew ?_ | with_reducible refine Bel.drewN ?_ _ | with_reducible refine Bel.trans ?_ (by with_reducible assumption) | (simp; done) | (simp; omega) | refine Bel.alloc ?_ _ | refine Bel.drew ?_ | refine Bel.drewN ?_ _ | refine Bel.set ?_ ?_ _))⟩
  by_cases e21 : op = 21
  · subst e21
    go_enter Try.func75, Try.ntmps75
    go_wp2_with (fail)
    all_goals
      go_returns
      exact ⟨ret_bool (by simp [TPattern.stop]), (by repeat' (first | with_reducible exact Bel.refl _ | with_reducible assumption | with_reducible refine Bel.set ?_ ?_ _ | with_reducible refine Bel.alloc ?_ _ | with_reducible refine Bel.drew ?_ | with_reducible refine Bel.drewN ?_ _ | with_reducible refine Bel.trans ?_ (by with_reducible assumption) | (simp; done) | (simp; omega) | refine Bel.alloc ?_ _ | refine Bel.drew ?_ | refine Bel.drewN ?_ _ | refine Bel.set ?_ ?_ _))⟩
  have b19 : (op == 19) = false := by simp [e19]
  have b21 : (op == 21) = false := by simp [e21]
  have HE : Hid ((TPattern.mk op t n lo hi ks).stop = TPattern.stops ks) := by show _ = _; simp [TPattern.stop, e19, e21]
  go_enter Try.func75, Try.ntmps75
  go_wp2_with (fail)
  go_loopw [3] (fun iv wr => ∃ k : Nat, k ≤ ks.length ∧ iv = .int .i64 k ∧ Hid (TPattern.stops (ks.take k) = false) ∧ Bel (w.alloc (.cells #[.int .i64 op, .string t, .int .i64 n, .int .i64 lo, .int .i64 hi, .slice A ks.length c] 43)) wr) (fun iv _ => ks.length - (intOf iv).toNat)
  case atStart => exact ⟨0, Nat.zero_le _, rfl, hide (by simp [TPattern.stops]), (by repeat' (first | with_reducible exact Bel.refl _ | with_reducible assumption | with_reducible refine Bel.set ?_ ?_ _ | with_reducible refine Bel.alloc ?_ _ | with_reducible refine Bel.drew ?_ | with_reducible refine Bel.drewN ?_ _ | with_reducible refine Bel.trans ?_ (by with_reducible assumption) | (simp; done) | (simp; omega) | refine Bel.alloc ?_ _ | refine Bel.drew ?_ | refine Bel.drewN ?_ _ | refine Bel.set ?_ ?_ _))⟩
  case round =>
    obtain ⟨k, hk, rfl, HT, hbx⟩ := hrel
    have p5 : wr.cell? ⟨w.heap.size, 5, none⟩ = some (.slice A ks.length c) := (hbx.box _ (by simp) 5).trans (by simp)
    have hbw : Bel w wr := Bel.trans (by repeat' (first | with_reducible exact Bel.refl _ | with_reducible assumption | with_reducible refine Bel.set ?_ ?_ _ | with_reducible refine Bel.alloc ?_ _ | with_reducible refine Bel.drew ?_ | with_reducible refine Bel.drewN ?_ _ | with_reducible refine Bel.trans ?_ (by with_reducible assumption) | (simp; done) | (simp; omega) | refine Bel.alloc ?_ _ | refine Bel.drew ?_ | refine Bel.drewN ?_ _ | refine Bel.set ?_ ?_ _)) hbx
    rcases Nat.lt_or_ge k ks.length with hlt | hge
    · have hd : decide ((k : Int) < (ks.length : Int)) = true := by simp; omega
      (obtain ⟨b1, o1, x1_0, x1_1, x1_2, x1_3, x1_4, x1_5, A1_5, C1_5, hA1, hS1, hl1, hx1, hv1, g1_0, g1_1, g1_2, g1_3, g1_4, g1_5, c1_0, c1_1, c1_2, c1_3, c1_4, c1_5⟩ := TPattern.at HR.out k hlt; subst hA1; have HV1 := hide (Dat.HoldVals.bel hbw hv1); have hh1 := hbw.box b1 hl1; have hw1 := Nat.lt_of_lt_of_le hl1 (Bel.size hbw); replace c1_0 := (hh1 _).trans c1_0; replace c1_1 := (hh1 _).trans c1_1; replace c1_2 := (hh1 _).trans c1_2; replace c1_3 := (hh1 _).trans c1_3; replace c1_4 := (hh1 _).trans c1_4; replace c1_5 := (hh1 _).trans c1_5; have HX1 := hide hx1; have GR1_5 := hide g1_5; clear hh1 hv1 hx1 hS1 g1_5)
      cases hvk : ks[k].stop
      · have HK := hide hvk
        clear hvk
        go_wp2_with (fail)
        refine (IH'.out k hlt S _ _ (Dat.HoldVals.bel (by repeat' (first | with_reducible exact Bel.refl _ | with_reducible assumption | with_reducible refine Bel.set ?_ ?_ _ | with_reducible refine Bel.alloc ?_ _ | with_reducible refine Bel.drew ?_ | with_reducible refine Bel.drewN ?_ _ | with_reducible refine Bel.trans ?_ (by with_reducible assumption) | (simp; done) | (simp; omega) | refine Bel.alloc ?_ _ | refine Bel.drew ?_ | refine Bel.drewN ?_ _ | refine Bel.set ?_ ?_ _)) HV1.out)).mono ?_
        rintro e w1 ⟨rfl, hb1⟩
        rw [HK.out]
        go_wp2_with (fail)
        all_goals
          go_roundw
          case rel => exact ⟨k + 1, by omega, by go_num, hide (TPattern.stops_no hlt HT.out HK.out), (by repeat' (first | with_reducible exact Bel.refl _ | with_reducible assumption | with_reducible refine Bel.set ?_ ?_ _ | with_reducible refine Bel.alloc ?_ _ | with_reducible refine Bel.drew ?_ | with_reducible refine Bel.drewN ?_ _ | with_reducible refine Bel.trans ?_ (by with_reducible assumption) | (simp; done) | (simp; omega) | refine Bel.alloc ?_ _ | refine Bel.drew ?_ | refine Bel.drewN ?_ _ | refine Bel.set ?_ ?_ _))⟩
          case measure => simp [intOf]; omega
      · have HK := hide hvk
        clear hvk
        go_wp2_with (fail)
        refine (IH'.out k hlt S _ _ (Dat.HoldVals.bel (by repeat' (first | with_reducible exact Bel.refl _ | with_reducible assumption | with_reducible refine Bel.set ?_ ?_ _ | with_reducible refine Bel.alloc ?_ _ | with_reducible refine Bel.drew ?_ | with_reducible refine Bel.drewN ?_ _ | with_reducible refine Bel.trans ?_ (by with_reducible assumption) | (simp; done) | (simp; omega) | refine Bel.alloc ?_ _ | refine Bel.drew ?_ | refine Bel.drewN ?_ _ | refine Bel.set ?_ ?_ _)) HV1.out)).mono ?_
        rintro e w1 ⟨rfl, hb1⟩
        rw [HK.out]
        go_wp2_with (fail)
        all_goals
          go_returns
          exact ⟨ret_bool (HE.out.trans (TPattern.stops_yes hlt HK.out)).symm, (by repeat' (first | with_reducible exact Bel.refl _ | with_reducible assumption | with_reducible refine Bel.set ?_ ?_ _ | with_reducible refine Bel.alloc ?_ _ | with_reducible refine Bel.drew ?_ | with_reducible refine Bel.drewN ?_ _ | with_reducible refine Bel.trans ?_ (by with_reducible assumption) | (simp; done) | (simp; omega) | refine Bel.alloc ?_ _ | refine Bel.drew ?_ | refine Bel.drewN ?_ _ | refine Bel.set ?_ ?_ _))⟩
    · have hd : decide ((k : Int) < (ks.length : Int)) = false := by simp; omega
      go_wp2_with (fail)
      go_returns
      exact ⟨ret_bool (by rw [HE.out]; have := HT.out; rw [List.take_of_length_le (by omega)] at this; exact this.symm), hbw⟩
set_option maxHeartbeats 1000000 in
theorem hasStop_any : ∀ t : TPattern, StopC 77 t := by
  refine TPattern.ind fun op t n lo hi ks IH => ?_
  intro S w vs hv
  obtain ⟨A, c, rfl, -, -, -, -, -, hR⟩ := TPattern.vals hv
  have IH' := hide IH
  have HR := hide hR
  have hlc := HR.out.1
  have hcm := HR.out.2.1
  simp only [List.length_map] at hlc
  unfold maxLen at hcm
  clear IH hR hv
  by_cases e19 : op = 19
  · subst e19
    go_enter Try.func77, Try.ntmps77
    go_wp2_with (fail)
    all_goals
      go_returns
      exact ⟨ret_bool (by simp [TPattern.stop]), (by repeat' (first | with_reducible exact Bel.refl _ | with_reducible assumption | with_reducible refine Bel.set ?_ ?_ _ | with_reducible refine Bel.alloc ?_ _ | with_reducible refine Bel.drew ?_ | with_reducible refine Bel.drewN ?_ _ | with_reducible refine Bel.trans ?_ (by with_reducible assumption) | (simp; done) | (simp; omega) | refine Bel.alloc ?_ _ | refine Bel.drew ?_ | refine Bel.drewN ?_ _ | refine Bel.set ?_ ?_ _))⟩
  by_cases e21 : op = 21
  · subst e21
    go_enter Try.func77, Try.ntmps77
    go_wp2_with (fail)
    all_goals
      go_returns
      exact ⟨ret_bool (by simp [TPattern.stop]), (by repeat' (first | with_reducible exact Bel.refl _ | with_reducible assumption | with_reducible refine Bel.set ?_ ?_ _ | with_reducible refine Bel.alloc ?_ _ | with_reducible refine Bel.drew ?_ | with_reducible refine Bel.drewN ?_ _ | with_reducible refine Bel.trans ?_ (by with_reducible assumption) | (simp; done) | (simp; omega) | refine Bel.alloc ?_ _ | refine Bel.drew ?_ | refine Bel.drewN ?_ _ | refine Bel.set ?_ ?_ _))⟩
  have b19 : (op == 19) = false := by simp [e19]
  have b21 : (op == 21) = false := by simp [e21]
  have HE : Hid ((TPattern.mk op t n lo hi ks).stop = TPattern.stops ks) := by show _ = _; simp [TPattern.stop, e19, e21]
  go_enter Try.func77, Try.ntmps77
  go_wp2_with (fail)
  go_loopw [16] (fun iv wr => ∃ k : Nat, k ≤ ks.length ∧ iv = .int .i64 k ∧ Hid (TPattern.stops (ks.take k) = false) ∧ Bel (w.alloc (.cells #[.int .i64 op, .string t, .int .i64 n, .int .i64 lo, .int .i64 hi, .slice A ks.length c] 43)) wr) (fun iv _ => ks.length - (intOf iv).toNat)
  case atStart => exact ⟨0, Nat.zero_le _, rfl, hide (by simp [TPattern.stops]), (by repeat' (first | with_reducible exact Bel.refl _ | with_reducible assumption | with_reducible refine Bel.set ?_ ?_ _ | with_reducible refine Bel.alloc ?_ _ | with_reducible refine Bel.drew ?_ | with_reducible refine Bel.drewN ?_ _ | with_reducible refine Bel.trans ?_ (by with_reducible assumption) | (simp; done) | (simp; omega) | refine Bel.alloc ?_ _ | refine Bel.drew ?_ | refine Bel.drewN ?_ _ | refine Bel.set ?_ ?_ _))⟩
  case round =>
    obtain ⟨k, hk, rfl, HT, hbx⟩ := hrel
    have hbw : Bel w wr := Bel.trans (by repeat' (first | with_reducible exact Bel.refl _ | with_reducible assumption | with_reducible refine Bel.set ?_ ?_ _ | with_reducible refine Bel.alloc ?_ _ | with_reducible refine Bel.drew ?_ | with_reducible refine Bel.drewN ?_ _ | with_reducible refine Bel.trans ?_ (by with_reducible assumption) | (simp; done) | (simp; omega) | refine Bel.alloc ?_ _ | refine Bel.drew ?_ | refine Bel.drewN ?_ _ | refine Bel.set ?_ ?_ _)) hbx
    rcases Nat.lt_or_ge k ks.length with hlt | hge
    · have hd : decide ((k : Int) < (ks.length : Int)) = true := by simp; omega
      (obtain ⟨b1, o1, x1_0, x1_1, x1_2, x1_3, x1_4, x1_5, A1_5, C1_5, hA1, hS1, hl1, hx1, hv1, g1_0, g1_1, g1_2, g1_3, g1_4, g1_5, c1_0, c1_1, c1_2, c1_3, c1_4, c1_5⟩ := TPattern.at HR.out k hlt; subst hA1; have HV1 := hide (Dat.HoldVals.bel hbw hv1); have hh1 := hbw.box b1 hl1; have hw1 := Nat.lt_of_lt_of_le hl1 (Bel.size hbw); replace c1_0 := (hh1 _).trans c1_0; replace c1_1 := (hh1 _).trans c1_1; replace c1_2 := (hh1 _).trans c1_2; replace c1_3 := (hh1 _).trans c1_3; replace c1_4 := (hh1 _).trans c1_4; replace c1_5 := (hh1 _).trans c1_5; have HX1 := hide hx1; have GR1_5 := hide g1_5; clear hh1 hv1 hx1 hS1 g1_5)
      cases hvk : ks[k].stop
      · have HK := hide hvk
        clear hvk
        go_wp2_with (fail)
        refine (IH'.out k hlt S _ _ (Dat.HoldVals.bel (by repeat' (first | with_reducible exact Bel.refl _ | with_reducible assumption | with_reducible refine Bel.set ?_ ?_ _ | with_reducible refine Bel.alloc ?_ _ | with_reducible refine Bel.drew ?_ | with_reducible refine Bel.drewN ?_ _ | with_reducible refine Bel.trans ?_ (by with_reducible assumption) | (simp; done) | (simp; omega) | refine Bel.alloc ?_ _ | refine Bel.drew ?_ | refine Bel.drewN ?_ _ | refine Bel.set ?_ ?_ _)) HV1.out)).mono ?_
        rintro e w1 ⟨rfl, hb1⟩
        rw [HK.out]
        go_wp2_with (fail)
        all_goals
          go_roundw
          case rel => exact ⟨k + 1, by omega, by go_num, hide (TPattern.stops_no hlt HT.out HK.out), (by repeat' (first | with_reducible exact Bel.refl _ | with_reducible assumption | with_reducible refine Bel.set ?_ ?_ _ | with_reducible refine Bel.alloc ?_ _ | with_reducible refine Bel.drew ?_ | with_reducible refine Bel.drewN ?_ _ | with_reducible refine Bel.trans ?_ (by with_reducible assumption) | (simp; done) | (simp; omega) | refine Bel.alloc ?_ _ | refine Bel.drew ?_ | refine Bel.drewN ?_ _ | refine Bel.set ?_ ?_ _))⟩
          case measure => simp [intOf]; omega
      · have HK := hide hvk
        clear hvk
        go_wp2_with (fail)
        refine (IH'.out k hlt S _ _ (Dat.HoldVals.bel (by repeat' (first | with_reducible exact Bel.refl _ | with_reducible assumption | with_reducible refine Bel.set ?_ ?_ _ | with_reducible refine Bel.alloc ?_ _ | with_reducible refine Bel.drew ?_ | with_reducible refine Bel.drewN ?_ _ | with_reducible refine Bel.trans ?_ (by with_reducible assumption) | (simp; done) | (simp; omega) | refine Bel.alloc ?_ _ | refine Bel.drew ?_ | refine Bel.drewN ?_ _ | refine Bel.set ?_ ?_ _)) HV1.out)).mono ?_
        rintro e w1 ⟨rfl, hb1⟩
        rw [HK.out]
        go_wp2_with (fail)
        all_goals
          go_returns
          exact ⟨ret_bool (HE.out.trans (TPattern.stops_yes hlt HK.out)).symm, (by repeat' (first | with_reducible exact Bel.refl _ | with_reducible assumption | with_reducible refine Bel.set ?_ ?_ _ | with_reducible refine Bel.alloc ?_ _ | with_reducible refine Bel.drew ?_ | with_reducible refine Bel.drewN ?_ _ | with_reducible refine Bel.trans ?_ (by with_reducible assumption) | (simp; done) | (simp; omega) | refine Bel.alloc ?_ _ | refine Bel.drew ?_ | refine Bel.drewN ?_ _ | refine Bel.set ?_ ?_ _))⟩
    · have hd : decide ((k : Int) < (ks.length : Int)) = false := by simp; omega
      go_wp2_with (fail)
      go_returns
      exact ⟨ret_bool (by rw [HE.out]; have := HT.out; rw [List.take_of_length_le (by omega)] at this; exact this.symm), hbw⟩

/-- The definitions of a match are valid. -/
def okDs (vars : Int) (ds : List TPattern) : Bool := ds.all (okP vars)
def okD (ds : List TPattern) (t : TPattern) : Bool := decide (ds.length ≤ 24) && (okP ds.length t && okDs ds.length ds)
theorem okDs_yes {vars : Int} {l : List TPattern} {k : Nat} (h : k < l.length) (h1 : okDs vars (l.take k) = true) (h2 : okP vars l[k] = true) : okDs vars (l.take (k + 1)) = true := by
  unfold okDs at *
  rw [take_snoc h, List.all_append, h1]
  simp [h2]
theorem okDs_no {vars : Int} {l : List TPattern} {k : Nat} (h : k < l.length) (h2 : okP vars l[k] = false) : okDs vars l = false := by
  unfold okDs
  rw [List.all_eq_false]
  exact ⟨l[k], List.getElem_mem _, by simp [h2]⟩
set_option maxHeartbeats 1000000 in
theorem l18Defs_any (ds : List TPattern) (t : TPattern) (S S' : Nat → Prop) (w : World) (A : Option Addr) (c : Nat) (vs : List Value) (hR : Row w S 6 A c (ds.map TPattern.D)) (hv : Dat.HoldVals w S' t.D vs) (hct : t.cnt ≤ 2000000) (hcs : ∀ (k : Nat) (h : k < ds.length), ds[k].cnt ≤ 2000000) :
    Calls Try.prog 74 #[.slice A ds.length c, .agg vs.toArray] w fun e w' => e = .returned (.bool (okD ds t)) ∧ Bel w w' := by
  have HV := hide hv
  have hv' := hv
  obtain ⟨y0, y1, y2, y3, y4, y5⟩ := t
  obtain ⟨A0, c0, rfl, -⟩ := TPattern.vals hv'
  have HR := hide hR
  have hlc := HR.out.1
  have hcm := HR.out.2.1
  simp only [List.length_map] at hlc
  unfold maxLen at hcm
  have HCT := hide hct
  have HCS := hide hcs
  clear hR hv hv' hct hcs
  by_cases h24 : 24 < ds.length
  · have d24 : decide ((24 : Int) < (ds.length : Int)) = true := by simp; omega
    have HE : Hid (okD ds (.mk y0 y1 y2 y3 y4 y5) = false) := by show _ = _; unfold okD; rw [show decide (ds.length ≤ 24) = false by simp; omega]; rfl
    go_enter Try.func74, Try.ntmps74
    go_wp2_with (fail)
    all_goals
      go_returns
      exact ⟨ret_bool HE.out.symm, (by repeat' (first | with_reducible exact Bel.refl _ | with_reducible assumption | with_reducible refine Bel.set ?_ ?_ _ | with_reducible refine Bel.alloc ?_ _ | with_reducible refine Bel.drew ?_ | with_reducible refine Bel.drewN ?_ _ | with_reducible refine Bel.trans ?_ (by with_reducible assumption) | (simp; done) | (simp; omega) | refine Bel.alloc ?_ _ | refine Bel.drew ?_ | refine Bel.drewN ?_ _ | refine Bel.set ?_ ?_ _))⟩
  have d24 : decide ((24 : Int) < (ds.length : Int)) = false := by simp; omega
  cases hk0 : okP ds.length (TPattern.mk y0 y1 y2 y3 y4 y5)
  · have HE : Hid (okD ds (.mk y0 y1 y2 y3 y4 y5) = false) := by show _ = _; unfold okD; rw [hk0]; simp
    have HK0 := hide hk0
    clear hk0
    go_enter Try.func74, Try.ntmps74
    go_wp2_with (fail)
    refine (specIsValidPattern_any _ _ _ _ _ (Dat.HoldVals.bel (by repeat' (first | with_reducible exact Bel.refl _ | with_reducible assumption | with_reducible refine Bel.set ?_ ?_ _ | with_reducible refine Bel.alloc ?_ _ | with_reducible refine Bel.drew ?_ | with_reducible refine Bel.drewN ?_ _ | with_reducible refine Bel.trans ?_ (by with_reducible assumption) | (simp; done) | (simp; omega) | refine Bel.alloc ?_ _ | refine Bel.drew ?_ | refine Bel.drewN ?_ _ | refine Bel.set ?_ ?_ _)) HV.out)).mono ?_
    rintro e w1 ⟨rfl, hb1⟩
    rw [HK0.out]
    go_wp2_with (fail)
    all_goals
      go_returns
      exact ⟨ret_bool HE.out.symm, (by repeat' (first | with_reducible exact Bel.refl _ | with_reducible assumption | with_reducible refine Bel.set ?_ ?_ _ | with_reducible refine Bel.alloc ?_ _ | with_reducible refine Bel.drew ?_ | with_reducible refine Bel.drewN ?_ _ | with_reducible refine Bel.trans ?_ (by with_reducible assumption) | (simp; done) | (simp; omega) | refine Bel.alloc ?_ _ | refine Bel.drew ?_ | refine Bel.drewN ?_ _ | refine Bel.set ?_ ?_ _))⟩
  have HE : Hid (okD ds (.mk y0 y1 y2 y3 y4 y5) = okDs ds.length ds) := by show _ = _; unfold okD; rw [hk0, show decide (ds.length ≤ 24) = true by simp; omega]; simp
  have HK0 := hide hk0
  clear hk0
  go_enter Try.func74, Try.ntmps74
  go_wp2_with (fail)
  refine (specIsValidPattern_any _ _ _ _ _ (Dat.HoldVals.bel (by repeat' (first | with_reducible exact Bel.refl _ | with_reducible assumption | with_reducible refine Bel.set ?_ ?_ _ | with_reducible refine Bel.alloc ?_ _ | with_reducible refine Bel.drew ?_ | with_reducible refine Bel.drewN ?_ _ | with_reducible refine Bel.trans ?_ (by with_reducible assumption) | (simp; done) | (simp; omega) | refine Bel.alloc ?_ _ | refine Bel.drew ?_ | refine Bel.drewN ?_ _ | refine Bel.set ?_ ?_ _)) HV.out)).mono ?_
  rintro e w1 ⟨rfl, hb1⟩
  rw [HK0.out]
  have hbw1 : Bel w w1 := (by repeat' (first | with_reducible exact Bel.refl _ | with_reducible assumption | with_reducible refine Bel.set ?_ ?_ _ | with_reducible refine Bel.alloc ?_ _ | with_reducible refine Bel.drew ?_ | with_reducible refine Bel.drewN ?_ _ | with_reducible refine Bel.trans ?_ (by with_reducible assumption) | (simp; done) | (simp; omega) | refine Bel.alloc ?_ _ | refine Bel.drew ?_ | refine Bel.drewN ?_ _ | refine Bel.set ?_ ?_ _))
  clear hb1
  go_wp2_with (fail)
  go_loopw [5] (fun iv wr => ∃ k : Nat, k ≤ ds.length ∧ iv = .int .i64 k ∧ Hid (okDs ds.length (ds.take k) = true) ∧ Bel w wr) (fun iv _ => ds.length - (intOf iv).toNat)
  case atStart => exact ⟨0, Nat.zero_le _, rfl, hide (by simp [okDs]), (by repeat' (first | with_reducible exact Bel.refl _ | with_reducible assumption | with_reducible refine Bel.set ?_ ?_ _ | with_reducible refine Bel.alloc ?_ _ | with_reducible refine Bel.drew ?_ | with_reducible refine Bel.drewN ?_ _ | with_reducible refine Bel.trans ?_ (by with_reducible assumption) | (simp; done) | (simp; omega) | refine Bel.alloc ?_ _ | refine Bel.drew ?_ | refine Bel.drewN ?_ _ | refine Bel.set ?_ ?_ _))⟩
  case round =>
    obtain ⟨k, hk, rfl, HT, hbw⟩ := hrel
    rcases Nat.lt_or_ge k ds.length with hlt | hge
    · have hd : decide ((k : Int) < (ds.length : Int)) = true := by simp; omega
      (obtain ⟨b1, o1, x1_0, x1_1, x1_2, x1_3, x1_4, x1_5, A1_5, C1_5, hA1, hS1, hl1, hx1, hv1, g1_0, g1_1, g1_2, g1_3, g1_4, g1_5, c1_0, c1_1, c1_2, c1_3, c1_4, c1_5⟩ := TPattern.at HR.out k hlt; subst hA1; have HV1 := hide (Dat.HoldVals.bel hbw hv1); have hh1 := hbw.box b1 hl1; have hw1 := Nat.lt_of_lt_of_le hl1 (Bel.size hbw); replace c1_0 := (hh1 _).trans c1_0; replace c1_1 := (hh1 _).trans c1_1; replace c1_2 := (hh1 _).trans c1_2; replace c1_3 := (hh1 _).trans c1_3; replace c1_4 := (hh1 _).trans c1_4; replace c1_5 := (hh1 _).trans c1_5; have HX1 := hide hx1; have GR1_5 := hide g1_5; clear hh1 hv1 hx1 hS1 g1_5)
      cases hvk : okP ds.length ds[k]
      · have HK := hide hvk
        clear hvk
        go_wp2_with (fail)
        refine (specIsValidPattern_any _ _ _ _ _ (Dat.HoldVals.bel (by repeat' (first | with_reducible exact Bel.refl _ | with_reducible assumption | with_reducible refine Bel.set ?_ ?_ _ | with_reducible refine Bel.alloc ?_ _ | with_reducible refine Bel.drew ?_ | with_reducible refine Bel.drewN ?_ _ | with_reducible refine Bel.trans ?_ (by with_reducible assumption) | (simp; done) | (simp; omega) | refine Bel.alloc ?_ _ | refine Bel.drew ?_ | refine Bel.drewN ?_ _ | refine Bel.set ?_ ?_ _)) HV1.out)).mono ?_
        rintro e w2 ⟨rfl, hb2⟩
        rw [HK.out]
        go_wp2_with (fail)
        all_goals
          go_returns
          exact ⟨ret_bool (HE.out.trans (okDs_no hlt HK.out)).symm, (by repeat' (first | with_reducible exact Bel.refl _ | with_reducible assumption | with_reducible refine Bel.set ?_ ?_ _ | with_reducible refine Bel.alloc ?_ _ | with_reducible refine Bel.drew ?_ | with_reducible refine Bel.drewN ?_ _ | with_reducible refine Bel.trans ?_ (by with_reducible assumption) | (simp; done) | (simp; omega) | refine Bel.alloc ?_ _ | refine Bel.drew ?_ | refine Bel.drewN ?_ _ | refine Bel.set ?_ ?_ _))⟩
      · have HK := hide hvk
        clear hvk
        go_wp2_with (fail)
        refine (specIsValidPattern_any _ _ _ _ _ (Dat.HoldVals.bel (by repeat' (first | with_reducible exact Bel.refl _ | with_reducible assumption | with_reducible refine Bel.set ?_ ?_ _ | with_reducible refine Bel.alloc ?_ _ | with_reducible refine Bel.drew ?_ | with_reducible refine Bel.drewN ?_ _ | with_reducible refine Bel.trans ?_ (by with_reducible assumption) | (simp; done) | (simp; omega) | refine Bel.alloc ?_ _ | refine Bel.drew ?_ | refine Bel.drewN ?_ _ | refine Bel.set ?_ ?_ _)) HV1.out)).mono ?_
        rintro e w2 ⟨rfl, hb2⟩
        rw [HK.out]
        go_wp2_with (fail)
        all_goals
          go_roundw
          case rel => exact ⟨k + 1, by omega, by go_num, hide (okDs_yes hlt HT.out HK.out), (by repeat' (first | with_reducible exact Bel.refl _ | with_reducible assumption | with_reducible refine Bel.set ?_ ?_ _ | with_reducible refine Bel.alloc ?_ _ | with_reducible refine Bel.drew ?_ | with_reducible refine Bel.drewN ?_ _ | with_reducible refine Bel.trans ?_ (by with_reducible assumption) | (simp; done) | (simp; omega) | refine Bel.alloc ?_ _ | refine Bel.drew ?_ | refine Bel.drewN ?_ _ | refine Bel.set ?_ ?_ _))⟩
          case measure => simp [intOf]; omega
    · have hd : decide ((k : Int) < (ds.length : Int)) = false := by simp; omega
      go_wp2_with (fail)
      go_returns
      exact ⟨ret_bool (by rw [HE.out]; have := HT.out; rw [List.take_of_length_le (by omega)] at this; exact this.symm), hbw⟩
set_option maxHeartbeats 1000000 in
theorem validDefinitions_any (ds : List TPattern) (t : TPattern) (S S' : Nat → Prop) (w : World) (A : Option Addr) (c : Nat) (vs : List Value) (hR : Row w S 6 A c (ds.map TPattern.D)) (hv : Dat.HoldVals w S' t.D vs) (hct : t.cnt ≤ 2000000) (hcs : ∀ (k : Nat) (h : k < ds.length), ds[k].cnt ≤ 2000000) :
    Calls Try.prog 76 #[.slice A ds.length c, .agg vs.toArray] w fun e w' => e = .returned (.bool (okD ds t)) ∧ Bel w w' := by
  have HV := hide hv
  have hv' := hv
  obtain ⟨y0, y1, y2, y3, y4, y5⟩ := t
  obtain ⟨A0, c0, rfl, -⟩ := TPattern.vals hv'
  have HR := hide hR
  have hlc := HR.out.1
  have hcm := HR.out.2.1
  simp only [List.length_map] at hlc
  unfold maxLen at hcm
  have HCT := hide hct
  have HCS := hide hcs
  clear hR hv hv' hct hcs
  by_cases h24 : 24 < ds.length
  · have d24 : decide ((24 : Int) < (ds.length : Int)) = true := by simp; omega
    have HE : Hid (okD ds (.mk y0 y1 y2 y3 y4 y5) = false) := by show _ = _; unfold okD; rw [show decide (ds.length ≤ 24) = false by simp; omega]; rfl
    go_enter Try.func76, Try.ntmps76
    go_wp2_with (fail)
    all_goals
      go_returns
      exact ⟨ret_bool HE.out.symm, (by repeat' (first | with_reducible exact Bel.refl _ | with_reducible assumption | with_reducible refine Bel.set ?_ ?_ _ | with_reducible refine Bel.alloc ?_ _ | with_reducible refine Bel.drew ?_ | with_reducible refine Bel.drewN ?_ _ | with_reducible refine Bel.trans ?_ (by with_reducible assumption) | (simp; done) | (simp; omega) | refine Bel.alloc ?_ _ | refine Bel.drew ?_ | refine Bel.drewN ?_ _ | refine Bel.set ?_ ?_ _))⟩
  have d24 : decide ((24 : Int) < (ds.length : Int)) = false := by simp; omega
  cases hk0 : okP ds.length (TPattern.mk y0 y1 y2 y3 y4 y5)
  · have HE : Hid (okD ds (.mk y0 y1 y2 y3 y4 y5) = false) := by show _ = _; unfold okD; rw [hk0]; simp
    have HK0 := hide hk0
    clear hk0
    go_enter Try.func76, Try.ntmps76
    go_wp2_with (fail)
    refine (implIsValidPattern_any _ _ _ _ _ (Dat.HoldVals.bel (by repeat' (first | with_reducible exact Bel.refl _ | with_reducible assumption | with_reducible refine Bel.set ?_ ?_ _ | with_reducible refine Bel.alloc ?_ _ | with_reducible refine Bel.drew ?_ | with_reducible refine Bel.drewN ?_ _ | with_reducible refine Bel.trans ?_ (by with_reducible assumption) | (simp; done) | (simp; omega) | refine Bel.alloc ?_ _ | refine Bel.drew ?_ | refine Bel.drewN ?_ _ | refine Bel.set ?_ ?_ _)) HV.out) HCT.out).mono ?_
    rintro e w1 ⟨rfl, hb1⟩
    rw [HK0.out]
    go_wp2_with (fail)
    all_goals
      go_returns
      exact ⟨ret_bool HE.out.symm, (by repeat' (first | with_reducible exact Bel.refl _ | with_reducible assumption | with_reducible refine Bel.set ?_ ?_ _ | with_reducible refine Bel.alloc ?_ _ | with_reducible refine Bel.drew ?_ | with_reducible refine Bel.drewN ?_ _ | with_reducible refine Bel.trans ?_ (by with_reducible assumption) | (simp; done) | (simp; omega) | refine Bel.alloc ?_ _ | refine Bel.drew ?_ | refine Bel.drewN ?_ _ | refine Bel.set ?_ ?_ _))⟩
  have HE : Hid (okD ds (.mk y0 y1 y2 y3 y4 y5) = okDs ds.length ds) := by show _ = _; unfold okD; rw [hk0, show decide (ds.length ≤ 24) = true by simp; omega]; simp
  have HK0 := hide hk0
  clear hk0
  go_enter Try.func76, Try.ntmps76
  go_wp2_with (fail)
  refine (implIsValidPattern_any _ _ _ _ _ (Dat.HoldVals.bel (by repeat' (first | with_reducible exact Bel.refl _ | with_reducible assumption | with_reducible refine Bel.set ?_ ?_ _ | with_reducible refine Bel.alloc ?_ _ | with_reducible refine Bel.drew ?_ | with_reducible refine Bel.drewN ?_ _ | with_reducible refine Bel.trans ?_ (by with_reducible assumption) | (simp; done) | (simp; omega) | refine Bel.alloc ?_ _ | refine Bel.drew ?_ | refine Bel.drewN ?_ _ | refine Bel.set ?_ ?_ _)) HV.out) HCT.out).mono ?_
  rintro e w1 ⟨rfl, hb1⟩
  rw [HK0.out]
  have hbw1 : Bel w w1 := (by repeat' (first | with_reducible exact Bel.refl _ | with_reducible assumption | with_reducible refine Bel.set ?_ ?_ _ | with_reducible refine Bel.alloc ?_ _ | with_reducible refine Bel.drew ?_ | with_reducible refine Bel.drewN ?_ _ | with_reducible refine Bel.trans ?_ (by with_reducible assumption) | (simp; done) | (simp; omega) | refine Bel.alloc ?_ _ | refine Bel.drew ?_ | refine Bel.drewN ?_ _ | refine Bel.set ?_ ?_ _))
  clear hb1
  go_wp2_with (fail)
  go_loopw [19] (fun iv wr => ∃ k : Nat, k ≤ ds.length ∧ iv = .int .i64 k ∧ Hid (okDs ds.length (ds.take k) = true) ∧ Bel w wr) (fun iv _ => ds.length - (intOf iv).toNat)
  case atStart => exact ⟨0, Nat.zero_le _, rfl, hide (by simp [okDs]), (by repeat' (first | with_reducible exact Bel.refl _ | with_reducible assumption | with_reducible refine Bel.set ?_ ?_ _ | with_reducible refine Bel.alloc ?_ _ | with_reducible refine Bel.drew ?_ | with_reducible refine Bel.drewN ?_ _ | with_reducible refine Bel.trans ?_ (by with_reducible assumption) | (simp; done) | (simp; omega) | refine Bel.alloc ?_ _ | refine Bel.drew ?_ | refine Bel.drewN ?_ _ | refine Bel.set ?_ ?_ _))⟩
  case round =>
    obtain ⟨k, hk, rfl, HT, hbw⟩ := hrel
    rcases Nat.lt_or_ge k ds.length with hlt | hge
    · have hd : decide ((k : Int) < (ds.length : Int)) = true := by simp; omega
      (obtain ⟨b1, o1, x1_0, x1_1, x1_2, x1_3, x1_4, x1_5, A1_5, C1_5, hA1, hS1, hl1, hx1, hv1, g1_0, g1_1, g1_2, g1_3, g1_4, g1_5, c1_0, c1_1, c1_2, c1_3, c1_4, c1_5⟩ := TPattern.at HR.out k hlt; subst hA1; have HV1 := hide (Dat.HoldVals.bel hbw hv1); have hh1 := hbw.box b1 hl1; have hw1 := Nat.lt_of_lt_of_le hl1 (Bel.size hbw); replace c1_0 := (hh1 _).trans c1_0; replace c1_1 := (hh1 _).trans c1_1; replace c1_2 := (hh1 _).trans c1_2; replace c1_3 := (hh1 _).trans c1_3; replace c1_4 := (hh1 _).trans c1_4; replace c1_5 := (hh1 _).trans c1_5; have HX1 := hide hx1; have GR1_5 := hide g1_5; clear hh1 hv1 hx1 hS1 g1_5)
      cases hvk : okP ds.length ds[k]
      · have HK := hide hvk
        clear hvk
        go_wp2_with (fail)
        refine (implIsValidPattern_any _ _ _ _ _ (Dat.HoldVals.bel (by repeat' (first | with_reducible exact Bel.refl _ | with_reducible assumption | with_reducible refine Bel.set ?_ ?_ _ | with_reducible refine Bel.alloc ?_ _ | with_reducible refine Bel.drew ?_ | with_reducible refine Bel.drewN ?_ _ | with_reducible refine Bel.trans ?_ (by with_reducible assumption) | (simp; done) | (simp; omega) | refine Bel.alloc ?_ _ | refine Bel.drew ?_ | refine Bel.drewN ?_ _ | refine Bel.set ?_ ?_ _)) HV1.out) (HCS.out k hlt)).mono ?_
        rintro e w2 ⟨rfl, hb2⟩
        rw [HK.out]
        go_wp2_with (fail)
        all_goals
          go_returns
          exact ⟨ret_bool (HE.out.trans (okDs_no hlt HK.out)).symm, (by repeat' (first | with_reducible exact Bel.refl _ | with_reducible assumption | with_reducible refine Bel.set ?_ ?_ _ | with_reducible refine Bel.alloc ?_ _ | with_reducible refine Bel.drew ?_ | with_reducible refine Bel.drewN ?_ _ | with_reducible refine Bel.trans ?_ (by with_reducible assumption) | (simp; done) | (simp; omega) | refine Bel.alloc ?_ _ | refine Bel.drew ?_ | refine Bel.drewN ?_ _ | refine Bel.set ?_ ?_ _))⟩
      · have HK := hide hvk
        clear hvk
        go_wp2_with (fail)
        refine (implIsValidPattern_any _ _ _ _ _ (Dat.HoldVals.bel (by repeat' (first | with_reducible exact Bel.refl _ | with_reducible assumption | with_reducible refine Bel.set ?_ ?_ _ | with_reducible refine Bel.alloc ?_ _ | with_reducible refine Bel.drew ?_ | with_reducible refine Bel.drewN ?_ _ | with_reducible refine Bel.trans ?_ (by with_reducible assumption) | (simp; done) | (simp; omega) | refine Bel.alloc ?_ _ | refine Bel.drew ?_ | refine Bel.drewN ?_ _ | refine Bel.set ?_ ?_ _)) HV1.out) (HCS.out k hlt)).mono ?_
        rintro e w2 ⟨rfl, hb2⟩
        rw [HK.out]
        go_wp2_with (fail)
        all_goals
          go_roundw
          case rel => exact ⟨k + 1, by omega, by go_num, hide (okDs_yes hlt HT.out HK.out), (by repeat' (first | with_reducible exact Bel.refl _ | with_reducible assumption | with_reducible refine Bel.set ?_ ?_ _ | with_reducible refine Bel.alloc ?_ _ | with_reducible refine Bel.drew ?_ | with_reducible refine Bel.drewN ?_ _ | with_reducible refine Bel.trans ?_ (by with_reducible assumption) | (simp; done) | (simp; omega) | refine Bel.alloc ?_ _ | refine Bel.drew ?_ | refine Bel.drewN ?_ _ | refine Bel.set ?_ ?_ _))⟩
          case measure => simp [intOf]; omega
    · have hd : decide ((k : Int) < (ds.length : Int)) = false := by simp; omega
      go_wp2_with (fail)
      go_returns
      exact ⟨ret_bool (by rw [HE.out]; have := HT.out; rw [List.take_of_length_le (by omega)] at this; exact this.symm), hbw⟩

/-- May a match be stopped? -/
def mayR (ds : List TPattern) (t : TPattern) : Bool := !okD ds t || (t.stop || TPattern.stops ds)
set_option maxHeartbeats 1000000 in
theorem specMayStop_any (ds : List TPattern) (t : TPattern) (S S' : Nat → Prop) (w : World) (A : Option Addr) (c : Nat) (vs : List Value) (hR : Row w S 6 A c (ds.map TPattern.D)) (hv : Dat.HoldVals w S' t.D vs) (hct : t.cnt ≤ 2000000) (hcs : ∀ (k : Nat) (h : k < ds.length), ds[k].cnt ≤ 2000000) :
    Calls Try.prog 39 #[.slice A ds.length c, .agg vs.toArray] w fun e w' => e = .returned (.bool (mayR ds t)) ∧ Bel w w' := by
  have HV := hide hv
  have hv' := hv
  obtain ⟨y0, y1, y2, y3, y4, y5⟩ := t
  obtain ⟨A0, c0, rfl, -⟩ := TPattern.vals hv'
  have HR := hide hR
  have hlc := HR.out.1
  have hcm := HR.out.2.1
  simp only [List.length_map] at hlc
  unfold maxLen at hcm
  have HCT := hide hct
  have HCS := hide hcs
  clear hR hv hv' hct hcs
  cases hk0 : okD ds (TPattern.mk y0 y1 y2 y3 y4 y5)
  · have HE : Hid (mayR ds (.mk y0 y1 y2 y3 y4 y5) = true) := by show _ = _; unfold mayR; rw [hk0]; rfl
    have HK0 := hide hk0
    clear hk0
    go_enter Try.func39, Try.ntmps39
    go_wp2_with (fail)
    refine (l18Defs_any ds _ _ _ _ _ _ _ (Row.bel (by repeat' (first | with_reducible exact Bel.refl _ | with_reducible assumption | with_reducible refine Bel.set ?_ ?_ _ | with_reducible refine Bel.alloc ?_ _ | with_reducible refine Bel.drew ?_ | with_reducible refine Bel.drewN ?_ _ | with_reducible refine Bel.trans ?_ (by with_reducible assumption) | (simp; done) | (simp; omega) | refine Bel.alloc ?_ _ | refine Bel.drew ?_ | refine Bel.drewN ?_ _ | refine Bel.set ?_ ?_ _)) HR.out) (Dat.HoldVals.bel (by repeat' (first | with_reducible exact Bel.refl _ | with_reducible assumption | with_reducible refine Bel.set ?_ ?_ _ | with_reducible refine Bel.alloc ?_ _ | with_reducible refine Bel.drew ?_ | with_reducible refine Bel.drewN ?_ _ | with_reducible refine Bel.trans ?_ (by with_reducible assumption) | (simp; done) | (simp; omega) | refine Bel.alloc ?_ _ | refine Bel.drew ?_ | refine Bel.drewN ?_ _ | refine Bel.set ?_ ?_ _)) HV.out) HCT.out HCS.out).mono ?_
    rintro e w1 ⟨rfl, hb1⟩
    rw [HK0.out]
    (have hz1 := hb1.size; (try simp only [World.size_alloc, World.size_setCell, World.size_drew] at hz1); have hk1_0 := hb1.box (w.heap.size) (by first | (simp; done) | (simp; omega) | omega); have hf1_0 := hb1.boxf (w.heap.size) (by first | (simp; done) | (simp; omega) | omega); have hl1_0 : w.heap.size < w1.heap.size := (by omega); have hn1_0 : ¬ w.heap.size = w1.heap.size := (by omega))
    go_wp2_with (fail)
    all_goals
      go_returns
      exact ⟨ret_bool HE.out.symm, (by repeat' (first | with_reducible exact Bel.refl _ | with_reducible assumption | with_reducible refine Bel.set ?_ ?_ _ | with_reducible refine Bel.alloc ?_ _ | with_reducible refine Bel.drew ?_ | with_reducible refine Bel.drewN ?_ _ | with_reducible refine Bel.trans ?_ (by with_reducible assumption) | (simp; done) | (simp; omega) | refine Bel.alloc ?_ _ | refine Bel.drew ?_ | refine Bel.drewN ?_ _ | refine Bel.set ?_ ?_ _))⟩
  cases hs0 : (TPattern.mk y0 y1 y2 y3 y4 y5).stop
  · have HE : Hid (mayR ds (.mk y0 y1 y2 y3 y4 y5) = TPattern.stops ds) := by show _ = _; unfold mayR; rw [hk0, hs0]; rfl
    have HK0 := hide hk0
    have HS0 := hide hs0
    clear hk0 hs0
    go_enter Try.func39, Try.ntmps39
    go_wp2_with (fail)
    refine (l18Defs_any ds _ _ _ _ _ _ _ (Row.bel (by repeat' (first | with_reducible exact Bel.refl _ | with_reducible assumption | with_reducible refine Bel.set ?_ ?_ _ | with_reducible refine Bel.alloc ?_ _ | with_reducible refine Bel.drew ?_ | with_reducible refine Bel.drewN ?_ _ | with_reducible refine Bel.trans ?_ (by with_reducible assumption) | (simp; done) | (simp; omega) | refine Bel.alloc ?_ _ | refine Bel.drew ?_ | refine Bel.drewN ?_ _ | refine Bel.set ?_ ?_ _)) HR.out) (Dat.HoldVals.bel (by repeat' (first | with_reducible exact Bel.refl _ | with_reducible assumption | with_reducible refine Bel.set ?_ ?_ _ | with_reducible refine Bel.alloc ?_ _ | with_reducible refine Bel.drew ?_ | with_reducible refine Bel.drewN ?_ _ | with_reducible refine Bel.trans ?_ (by with_reducible assumption) | (simp; done) | (simp; omega) | refine Bel.alloc ?_ _ | refine Bel.drew ?_ | refine Bel.drewN ?_ _ | refine Bel.set ?_ ?_ _)) HV.out) HCT.out HCS.out).mono ?_
    rintro e w1 ⟨rfl, hb1⟩
    rw [HK0.out]
    (have hz1 := hb1.size; (try simp only [World.size_alloc, World.size_setCell, World.size_drew] at hz1); have hk1_0 := hb1.box (w.heap.size) (by first | (simp; done) | (simp; omega) | omega); have hf1_0 := hb1.boxf (w.heap.size) (by first | (simp; done) | (simp; omega) | omega); have hl1_0 : w.heap.size < w1.heap.size := (by omega); have hn1_0 : ¬ w.heap.size = w1.heap.size := (by omega))
    go_wp2_with (fail)
    refine (l21Stops_any _ _ _ _ (Dat.HoldVals.bel (by repeat' (first | with_reducible exact Bel.refl _ | with_reducible assumption | with_reducible refine Bel.set ?_ ?_ _ | with_reducible refine Bel.alloc ?_ _ | with_reducible refine Bel.drew ?_ | with_reducible refine Bel.drewN ?_ _ | with_reducible refine Bel.trans ?_ (by with_reducible assumption) | (simp; done) | (simp; omega) | refine Bel.alloc ?_ _ | refine Bel.drew ?_ | refine Bel.drewN ?_ _ | refine Bel.set ?_ ?_ _)) HV.out)).mono ?_
    rintro e w2 ⟨rfl, hb2⟩
    rw [HS0.out]
    have hbw2 : Bel w w2 := (by repeat' (first | with_reducible exact Bel.refl _ | with_reducible assumption | with_reducible refine Bel.set ?_ ?_ _ | with_reducible refine Bel.alloc ?_ _ | with_reducible refine Bel.drew ?_ | with_reducible refine Bel.drewN ?_ _ | with_reducible refine Bel.trans ?_ (by with_reducible assumption) | (simp; done) | (simp; omega) | refine Bel.alloc ?_ _ | refine Bel.drew ?_ | refine Bel.drewN ?_ _ | refine Bel.set ?_ ?_ _))
    go_wp2_with (fail)
    go_loopw [5] (fun iv wr => ∃ k : Nat, k ≤ ds.length ∧ iv = .int .i64 k ∧ Hid (TPattern.stops (ds.take k) = false) ∧ Bel w wr) (fun iv _ => ds.length - (intOf iv).toNat)
    case atStart => exact ⟨0, Nat.zero_le _, rfl, hide (by simp [TPattern.stops]), (by repeat' (first | with_reducible exact Bel.refl _ | with_reducible assumption | with_reducible refine Bel.set ?_ ?_ _ | with_reducible refine Bel.alloc ?_ _ | with_reducible refine Bel.drew ?_ | with_reducible refine Bel.drewN ?_ _ | with_reducible refine Bel.trans ?_ (by with_reducible assumption) | (simp; done) | (simp; omega) | refine Bel.alloc ?_ _ | refine Bel.drew ?_ | refine Bel.drewN ?_ _ | refine Bel.set ?_ ?_ _))⟩
    case round =>
      obtain ⟨k, hk, rfl, HT, hbw⟩ := hrel
      rcases Nat.lt_or_ge k ds.length with hlt | hge
      · have hd : decide ((k : Int) < (ds.length : Int)) = true := by simp; omega
        (obtain ⟨b1, o1, x1_0, x1_1, x1_2, x1_3, x1_4, x1_5, A1_5, C1_5, hA1, hS1, hl1, hx1, hv1, g1_0, g1_1, g1_2, g1_3, g1_4, g1_5, c1_0, c1_1, c1_2, c1_3, c1_4, c1_5⟩ := TPattern.at HR.out k hlt; subst hA1; have HV1 := hide (Dat.HoldVals.bel hbw hv1); have hh1 := hbw.box b1 hl1; have hw1 := Nat.lt_of_lt_of_le hl1 (Bel.size hbw); replace c1_0 := (hh1 _).trans c1_0; replace c1_1 := (hh1 _).trans c1_1; replace c1_2 := (hh1 _).trans c1_2; replace c1_3 := (hh1 _).trans c1_3; replace c1_4 := (hh1 _).trans c1_4; replace c1_5 := (hh1 _).trans c1_5; have HX1 := hide hx1; have GR1_5 := hide g1_5; clear hh1 hv1 hx1 hS1 g1_5)
        cases hvk : ds[k].stop
        · have HK := hide hvk
          clear hvk
          go_wp2_with (fail)
          refine (l21Stops_any _ _ _ _ (Dat.HoldVals.bel (by repeat' (first | with_reducible exact Bel.refl _ | with_reducible assumption | with_reducible refine Bel.set ?_ ?_ _ | with_reducible refine Bel.alloc ?_ _ | with_reducible refine Bel.drew ?_ | with_reducible refine Bel.drewN ?_ _ | with_reducible refine Bel.trans ?_ (by with_reducible assumption) | (simp; done) | (simp; omega) | refine Bel.alloc ?_ _ | refine Bel.drew ?_ | refine Bel.drewN ?_ _ | refine Bel.set ?_ ?_ _)) HV1.out)).mono ?_
          rintro e w3 ⟨rfl, hb3⟩
          rw [HK.out]
          go_wp2_with (fail)
          all_goals
            go_roundw
            case rel => exact ⟨k + 1, by omega, by go_num, hide (TPattern.stops_no hlt HT.out HK.out), (by repeat' (first | with_reducible exact Bel.refl _ | with_reducible assumption | with_reducible refine Bel.set ?_ ?_ _ | with_reducible refine Bel.alloc ?_ _ | with_reducible refine Bel.drew ?_ | with_reducible refine Bel.drewN ?_ _ | with_reducible refine Bel.trans ?_ (by with_reducible assumption) | (simp; done) | (simp; omega) | refine Bel.alloc ?_ _ | refine Bel.drew ?_ | refine Bel.drewN ?_ _ | refine Bel.set ?_ ?_ _))⟩
            case measure => simp [intOf]; omega
        · have HK := hide hvk
          clear hvk
          go_wp2_with (fail)
          refine (l21Stops_any _ _ _ _ (Dat.HoldVals.bel (by repeat' (first | with_reducible exact Bel.refl _ | with_reducible assumption | with_reducible refine Bel.set ?_ ?_ _ | with_reducible refine Bel.alloc ?_ _ | with_reducible refine Bel.drew ?_ | with_reducible refine Bel.drewN ?_ _ | with_reducible refine Bel.trans ?_ (by with_reducible assumption) | (simp; done) | (simp; omega) | refine Bel.alloc ?_ _ | refine Bel.drew ?_ | refine Bel.drewN ?_ _ | refine Bel.set ?_ ?_ _)) HV1.out)).mono ?_
          rintro e w3 ⟨rfl, hb3⟩
          rw [HK.out]
          go_wp2_with (fail)
          all_goals
            go_returns
            exact ⟨ret_bool (HE.out.trans (TPattern.stops_yes hlt HK.out)).symm, (by repeat' (first | with_reducible exact Bel.refl _ | with_reducible assumption | with_reducible refine Bel.set ?_ ?_ _ | with_reducible refine Bel.alloc ?_ _ | with_reducible refine Bel.drew ?_ | with_reducible refine Bel.drewN ?_ _ | with_reducible refine Bel.trans ?_ (by with_reducible assumption) | (simp; done) | (simp; omega) | refine Bel.alloc ?_ _ | refine Bel.drew ?_ | refine Bel.drewN ?_ _ | refine Bel.set ?_ ?_ _))⟩
      · have hd : decide ((k : Int) < (ds.length : Int)) = false := by simp; omega
        go_wp2_with (fail)
        go_returns
        exact ⟨ret_bool (by rw [HE.out]; have := HT.out; rw [List.take_of_length_le (by omega)] at this; exact this.symm), hbw⟩
  · have HE : Hid (mayR ds (.mk y0 y1 y2 y3 y4 y5) = true) := by show _ = _; unfold mayR; rw [hk0, hs0]; rfl
    have HK0 := hide hk0
    have HS0 := hide hs0
    clear hk0 hs0
    go_enter Try.func39, Try.ntmps39
    go_wp2_with (fail)
    refine (l18Defs_any ds _ _ _ _ _ _ _ (Row.bel (by repeat' (first | with_reducible exact Bel.refl _ | with_reducible assumption | with_reducible refine Bel.set ?_ ?_ _ | with_reducible refine Bel.alloc ?_ _ | with_reducible refine Bel.drew ?_ | with_reducible refine Bel.drewN ?_ _ | with_reducible refine Bel.trans ?_ (by with_reducible assumption) | (simp; done) | (simp; omega) | refine Bel.alloc ?_ _ | refine Bel.drew ?_ | refine Bel.drewN ?_ _ | refine Bel.set ?_ ?_ _)) HR.out) (Dat.HoldVals.bel (by repeat' (first | with_reducible exact Bel.refl _ | with_reducible assumption | with_reducible refine Bel.set ?_ ?_ _ | with_reducible refine Bel.alloc ?_ _ | with_reducible refine Bel.drew ?_ | with_reducible refine Bel.drewN ?_ _ | with_reducible refine Bel.trans ?_ (by with_reducible assumption) | (simp; done) | (simp; omega) | refine Bel.alloc ?_ _ | refine Bel.drew ?_ | refine Bel.drewN ?_ _ | refine Bel.set ?_ ?_ _)) HV.out) HCT.out HCS.out).mono ?_
    rintro e w1 ⟨rfl, hb1⟩
    rw [HK0.out]
    (have hz1 := hb1.size; (try simp only [World.size_alloc, World.size_setCell, World.size_drew] at hz1); have hk1_0 := hb1.box (w.heap.size) (by first | (simp; done) | (simp; omega) | omega); have hf1_0 := hb1.boxf (w.heap.size) (by first | (simp; done) | (simp; omega) | omega); have hl1_0 : w.heap.size < w1.heap.size := (by omega); have hn1_0 : ¬ w.heap.size = w1.heap.size := (by omega))
    go_wp2_with (fail)
    refine (l21Stops_any _ _ _ _ (Dat.HoldVals.bel (by repeat' (first | with_reducible exact Bel.refl _ | with_reducible assumption | with_reducible refine Bel.set ?_ ?_ _ | with_reducible refine Bel.alloc ?_ _ | with_reducible refine Bel.drew ?_ | with_reducible refine Bel.drewN ?_ _ | with_reducible refine Bel.trans ?_ (by with_reducible assumption) | (simp; done) | (simp; omega) | refine Bel.alloc ?_ _ | refine Bel.drew ?_ | refine Bel.drewN ?_ _ | refine Bel.set ?_ ?_ _)) HV.out)).mono ?_
    rintro e w2 ⟨rfl, hb2⟩
    rw [HS0.out]
    have hbw2 : Bel w w2 := (by repeat' (first | with_reducible exact Bel.refl _ | with_reducible assumption | with_reducible refine Bel.set ?_ ?_ _ | with_reducible refine Bel.alloc ?_ _ | with_reducible refine Bel.drew ?_ | with_reducible refine Bel.drewN ?_ _ | with_reducible refine Bel.trans ?_ (by with_reducible assumption) | (simp; done) | (simp; omega) | refine Bel.alloc ?_ _ | refine Bel.drew ?_ | refine Bel.drewN ?_ _ | refine Bel.set ?_ ?_ _))
    go_wp2_with (fail)
    all_goals
      go_returns
      exact ⟨ret_bool HE.out.symm, (by repeat' (first | with_reducible exact Bel.refl _ | with_reducible assumption | with_reducible refine Bel.set ?_ ?_ _ | with_reducible refine Bel.alloc ?_ _ | with_reducible refine Bel.drew ?_ | with_reducible refine Bel.drewN ?_ _ | with_reducible refine Bel.trans ?_ (by with_reducible assumption) | (simp; done) | (simp; omega) | refine Bel.alloc ?_ _ | refine Bel.drew ?_ | refine Bel.drewN ?_ _ | refine Bel.set ?_ ?_ _))⟩
set_option maxHeartbeats 1000000 in
theorem implMayStop_any (ds : List TPattern) (t : TPattern) (S S' : Nat → Prop) (w : World) (A : Option Addr) (c : Nat) (vs : List Value) (hR : Row w S 6 A c (ds.map TPattern.D)) (hv : Dat.HoldVals w S' t.D vs) (hct : t.cnt ≤ 2000000) (hcs : ∀ (k : Nat) (h : k < ds.length), ds[k].cnt ≤ 2000000) :
    Calls Try.prog 41 #[.slice A ds.length c, .agg vs.toArray] w fun e w' => e = .returned (.bool (mayR ds t)) ∧ Bel w w' := by
  have HV := hide hv
  have hv' := hv
  obtain ⟨y0, y1, y2, y3, y4, y5⟩ := t
  obtain ⟨A0, c0, rfl, -⟩ := TPattern.vals hv'
  have HR := hide hR
  have hlc := HR.out.1
  have hcm := HR.out.2.1
  simp only [List.length_map] at hlc
  unfold maxLen at hcm
  have HCT := hide hct
  have HCS := hide hcs
  clear hR hv hv' hct hcs
  cases hk0 : okD ds (TPattern.mk y0 y1 y2 y3 y4 y5)
  · have HE : Hid (mayR ds (.mk y0 y1 y2 y3 y4 y5) = true) := by show _ = _; unfold mayR; rw [hk0]; rfl
    have HK0 := hide hk0
    clear hk0
    go_enter Try.func41, Try.ntmps41
    go_wp2_with (fail)
    refine (validDefinitions_any ds _ _ _ _ _ _ _ (Row.bel (by repeat' (first | with_reducible exact Bel.refl _ | with_reducible assumption | with_reducible refine Bel.set ?_ ?_ _ | with_reducible refine Bel.alloc ?_ _ | with_reducible refine Bel.drew ?_ | with_reducible refine Bel.drewN ?_ _ | with_reducible refine Bel.trans ?_ (by with_reducible assumption) | (simp; done) | (simp; omega) | refine Bel.alloc ?_ _ | refine Bel.drew ?_ | refine Bel.drewN ?_ _ | refine Bel.set ?_ ?_ _)) HR.out) (Dat.HoldVals.bel (by repeat' (first | with_reducible exact Bel.refl _ | with_reducible assumption | with_reducible refine Bel.set ?_ ?_ _ | with_reducible refine Bel.alloc ?_ _ | with_reducible refine Bel.drew ?_ | with_reducible refine Bel.drewN ?_ _ | with_reducible refine Bel.trans ?_ (by with_reducible assumption) | (simp; done) | (simp; omega) | refine Bel.alloc ?_ _ | refine Bel.drew ?_ | refine Bel.drewN ?_ _ | refine Bel.set ?_ ?_ _)) HV.out) HCT.out HCS.out).mono ?_
    rintro e w1 ⟨rfl, hb1⟩
    rw [HK0.out]
    (have hz1 := hb1.size; (try simp only [World.size_alloc, World.size_setCell, World.size_drew] at hz1); have hk1_0 := hb1.box (w.heap.size) (by first | (simp; done) | (simp; omega) | omega); have hf1_0 := hb1.boxf (w.heap.size) (by first | (simp; done) | (simp; omega) | omega); have hl1_0 : w.heap.size < w1.heap.size := (by omega); have hn1_0 : ¬ w.heap.size = w1.heap.size := (by omega))
    go_wp2_with (fail)
    all_goals
      go_returns
      exact ⟨ret_bool HE.out.symm, (by repeat' (first | with_reducible exact Bel.refl _ | with_reducible assumption | with_reducible refine Bel.set ?_ ?_ _ | with_reducible refine Bel.alloc ?_ _ | with_reducible refine Bel.drew ?_ | with_reducible refine Bel.drewN ?_ _ | with_reducible refine Bel.trans ?_ (by with_reducible assumption) | (simp; done) | (simp; omega) | refine Bel.alloc ?_ _ | refine Bel.drew ?_ | refine Bel.drewN ?_ _ | refine Bel.set ?_ ?_ _))⟩
  cases hs0 : (TPattern.mk y0 y1 y2 y3 y4 y5).stop
  · have HE : Hid (mayR ds (.mk y0 y1 y2 y3 y4 y5) = TPattern.stops ds) := by show _ = _; unfold mayR; rw [hk0, hs0]; rfl
    have HK0 := hide hk0
    have HS0 := hide hs0
    clear hk0 hs0
    go_enter Try.func41, Try.ntmps41
    go_wp2_with (fail)
    refine (validDefinitions_any ds _ _ _ _ _ _ _ (Row.bel (by repeat' (first | with_reducible exact Bel.refl _ | with_reducible assumption | with_reducible refine Bel.set ?_ ?_ _ | with_reducible refine Bel.alloc ?_ _ | with_reducible refine Bel.drew ?_ | with_reducible refine Bel.drewN ?_ _ | with_reducible refine Bel.trans ?_ (by with_reducible assumption) | (simp; done) | (simp; omega) | refine Bel.alloc ?_ _ | refine Bel.drew ?_ | refine Bel.drewN ?_ _ | refine Bel.set ?_ ?_ _)) HR.out) (Dat.HoldVals.bel (by repeat' (first | with_reducible exact Bel.refl _ | with_reducible assumption | with_reducible refine Bel.set ?_ ?_ _ | with_reducible refine Bel.alloc ?_ _ | with_reducible refine Bel.drew ?_ | with_reducible refine Bel.drewN ?_ _ | with_reducible refine Bel.trans ?_ (by with_reducible assumption) | (simp; done) | (simp; omega) | refine Bel.alloc ?_ _ | refine Bel.drew ?_ | refine Bel.drewN ?_ _ | refine Bel.set ?_ ?_ _)) HV.out) HCT.out HCS.out).mono ?_
    rintro e w1 ⟨rfl, hb1⟩
    rw [HK0.out]
    (have hz1 := hb1.size; (try simp only [World.size_alloc, World.size_setCell, World.size_drew] at hz1); have hk1_0 := hb1.box (w.heap.size) (by first | (simp; done) | (simp; omega) | omega); have hf1_0 := hb1.boxf (w.heap.size) (by first | (simp; done) | (simp; omega) | omega); have hl1_0 : w.heap.size < w1.heap.size := (by omega); have hn1_0 : ¬ w.heap.size = w1.heap.size := (by omega))
    go_wp2_with (fail)
    refine (hasStop_any _ _ _ _ (Dat.HoldVals.bel (by repeat' (first | with_reducible exact Bel.refl _ | with_reducible assumption | with_reducible refine Bel.set ?_ ?_ _ | with_reducible refine Bel.alloc ?_ _ | with_reducible refine Bel.drew ?_ | with_reducible refine Bel.drewN ?_ _ | with_reducible refine Bel.trans ?_ (by with_reducible assumption) | (simp; done) | (simp; omega) | refine Bel.alloc ?_ _ | refine Bel.drew ?_ | refine Bel.drewN ?_ _ | refine Bel.set ?_ ?_ _)) HV.out)).mono ?_
    rintro e w2 ⟨rfl, hb2⟩
    rw [HS0.out]
    have hbw2 : Bel w w2 := (by repeat' (first | with_reducible exact Bel.refl _ | with_reducible assumption | with_reducible refine Bel.set ?_ ?_ _ | with_reducible refine Bel.alloc ?_ _ | with_reducible refine Bel.drew ?_ | with_reducible refine Bel.drewN ?_ _ | with_reducible refine Bel.trans ?_ (by with_reducible assumption) | (simp; done) | (simp; omega) | refine Bel.alloc ?_ _ | refine Bel.drew ?_ | refine Bel.drewN ?_ _ | refine Bel.set ?_ ?_ _))
    go_wp2_with (fail)
    go_loopw [17] (fun iv wr => ∃ k : Nat, k ≤ ds.length ∧ iv = .int .i64 k ∧ Hid (TPattern.stops (ds.take k) = false) ∧ Bel w wr) (fun iv _ => ds.length - (intOf iv).toNat)
    case atStart => exact ⟨0, Nat.zero_le _, rfl, hide (by simp [TPattern.stops]), (by repeat' (first | with_reducible exact Bel.refl _ | with_reducible assumption | with_reducible refine Bel.set ?_ ?_ _ | with_reducible refine Bel.alloc ?_ _ | with_reducible refine Bel.drew ?_ | with_reducible refine Bel.drewN ?_ _ | with_reducible refine Bel.trans ?_ (by with_reducible assumption) | (simp; done) | (simp; omega) | refine Bel.alloc ?_ _ | refine Bel.drew ?_ | refine Bel.drewN ?_ _ | refine Bel.set ?_ ?_ _))⟩
    case round =>
      obtain ⟨k, hk, rfl, HT, hbw⟩ := hrel
      rcases Nat.lt_or_ge k ds.length with hlt | hge
      · have hd : decide ((k : Int) < (ds.length : Int)) = true := by simp; omega
        (obtain ⟨b1, o1, x1_0, x1_1, x1_2, x1_3, x1_4, x1_5, A1_5, C1_5, hA1, hS1, hl1, hx1, hv1, g1_0, g1_1, g1_2, g1_3, g1_4, g1_5, c1_0, c1_1, c1_2, c1_3, c1_4, c1_5⟩ := TPattern.at HR.out k hlt; subst hA1; have HV1 := hide (Dat.HoldVals.bel hbw hv1); have hh1 := hbw.box b1 hl1; have hw1 := Nat.lt_of_lt_of_le hl1 (Bel.size hbw); replace c1_0 := (hh1 _).trans c1_0; replace c1_1 := (hh1 _).trans c1_1; replace c1_2 := (hh1 _).trans c1_2; replace c1_3 := (hh1 _).trans c1_3; replace c1_4 := (hh1 _).trans c1_4; replace c1_5 := (hh1 _).trans c1_5; have HX1 := hide hx1; have GR1_5 := hide g1_5; clear hh1 hv1 hx1 hS1 g1_5)
        cases hvk : ds[k].stop
        · have HK := hide hvk
          clear hvk
          go_wp2_with (fail)
          refine (hasStop_any _ _ _ _ (Dat.HoldVals.bel (by repeat' (first | with_reducible exact Bel.refl _ | with_reducible assumption | with_reducible refine Bel.set ?_ ?_ _ | with_reducible refine Bel.alloc ?_ _ | with_reducible refine Bel.drew ?_ | with_reducible refine Bel.drewN ?_ _ | with_reducible refine Bel.trans ?_ (by with_reducible assumption) | (simp; done) | (simp; omega) | refine Bel.alloc ?_ _ | refine Bel.drew ?_ | refine Bel.drewN ?_ _ | refine Bel.set ?_ ?_ _)) HV1.out)).mono ?_
          rintro e w3 ⟨rfl, hb3⟩
          rw [HK.out]
          go_wp2_with (fail)
          all_goals
            go_roundw
            case rel => exact ⟨k + 1, by omega, by go_num, hide (TPattern.stops_no hlt HT.out HK.out), (by repeat' (first | with_reducible exact Bel.refl _ | with_reducible assumption | with_reducible refine Bel.set ?_ ?_ _ | with_reducible refine Bel.alloc ?_ _ | with_reducible refine Bel.drew ?_ | with_reducible refine Bel.drewN ?_ _ | with_reducible refine Bel.trans ?_ (by with_reducible assumption) | (simp; done) | (simp; omega) | refine Bel.alloc ?_ _ | refine Bel.drew ?_ | refine Bel.drewN ?_ _ | refine Bel.set ?_ ?_ _))⟩
            case measure => simp [intOf]; omega
        · have HK := hide hvk
          clear hvk
          go_wp2_with (fail)
          refine (hasStop_any _ _ _ _ (Dat.HoldVals.bel (by repeat' (first | with_reducible exact Bel.refl _ | with_reducible assumption | with_reducible refine Bel.set ?_ ?_ _ | with_reducible refine Bel.alloc ?_ _ | with_reducible refine Bel.drew ?_ | with_reducible refine Bel.drewN ?_ _ | with_reducible refine Bel.trans ?_ (by with_reducible assumption) | (simp; done) | (simp; omega) | refine Bel.alloc ?_ _ | refine Bel.drew ?_ | refine Bel.drewN ?_ _ | refine Bel.set ?_ ?_ _)) HV1.out)).mono ?_
          rintro e w3 ⟨rfl, hb3⟩
          rw [HK.out]
          go_wp2_with (fail)
          all_goals
            go_returns
            exact ⟨ret_bool (HE.out.trans (TPattern.stops_yes hlt HK.out)).symm, (by repeat' (first | with_reducible exact Bel.refl _ | with_reducible assumption | with_reducible refine Bel.set ?_ ?_ _ | with_reducible refine Bel.alloc ?_ _ | with_reducible refine Bel.drew ?_ | with_reducible refine Bel.drewN ?_ _ | with_reducible refine Bel.trans ?_ (by with_reducible assumption) | (simp; done) | (simp; omega) | refine Bel.alloc ?_ _ | refine Bel.drew ?_ | refine Bel.drewN ?_ _ | refine Bel.set ?_ ?_ _))⟩
      · have hd : decide ((k : Int) < (ds.length : Int)) = false := by simp; omega
        go_wp2_with (fail)
        go_returns
        exact ⟨ret_bool (by rw [HE.out]; have := HT.out; rw [List.take_of_length_le (by omega)] at this; exact this.symm), hbw⟩
  · have HE : Hid (mayR ds (.mk y0 y1 y2 y3 y4 y5) = true) := by show _ = _; unfold mayR; rw [hk0, hs0]; rfl
    have HK0 := hide hk0
    have HS0 := hide hs0
    clear hk0 hs0
    go_enter Try.func41, Try.ntmps41
    go_wp2_with (fail)
    refine (validDefinitions_any ds _ _ _ _ _ _ _ (Row.bel (by repeat' (first | with_reducible exact Bel.refl _ | with_reducible assumption | with_reducible refine Bel.set ?_ ?_ _ | with_reducible refine Bel.alloc ?_ _ | with_reducible refine Bel.drew ?_ | with_reducible refine Bel.drewN ?_ _ | with_reducible refine Bel.trans ?_ (by with_reducible assumption) | (simp; done) | (simp; omega) | refine Bel.alloc ?_ _ | refine Bel.drew ?_ | refine Bel.drewN ?_ _ | refine Bel.set ?_ ?_ _)) HR.out) (Dat.HoldVals.bel (by repeat' (first | with_reducible exact Bel.refl _ | with_reducible assumption | with_reducible refine Bel.set ?_ ?_ _ | with_reducible refine Bel.alloc ?_ _ | with_reducible refine Bel.drew ?_ | with_reducible refine Bel.drewN ?_ _ | with_reducible refine Bel.trans ?_ (by with_reducible assumption) | (simp; done) | (simp; omega) | refine Bel.alloc ?_ _ | refine Bel.drew ?_ | refine Bel.drewN ?_ _ | refine Bel.set ?_ ?_ _)) HV.out) HCT.out HCS.out).mono ?_
    rintro e w1 ⟨rfl, hb1⟩
    rw [HK0.out]
    (have hz1 := hb1.size; (try simp only [World.size_alloc, World.size_setCell, World.size_drew] at hz1); have hk1_0 := hb1.box (w.heap.size) (by first | (simp; done) | (simp; omega) | omega); have hf1_0 := hb1.boxf (w.heap.size) (by first | (simp; done) | (simp; omega) | omega); have hl1_0 : w.heap.size < w1.heap.size := (by omega); have hn1_0 : ¬ w.heap.size = w1.heap.size := (by omega))
    go_wp2_with (fail)
    refine (hasStop_any _ _ _ _ (Dat.HoldVals.bel (by repeat' (first | with_reducible exact Bel.refl _ | with_reducible assumption | with_reducible refine Bel.set ?_ ?_ _ | with_reducible refine Bel.alloc ?_ _ | with_reducible refine Bel.drew ?_ | with_reducible refine Bel.drewN ?_ _ | with_reducible refine Bel.trans ?_ (by with_reducible assumption) | (simp; done) | (simp; omega) | refine Bel.alloc ?_ _ | refine Bel.drew ?_ | refine Bel.drewN ?_ _ | refine Bel.set ?_ ?_ _)) HV.out)).mono ?_
    rintro e w2 ⟨rfl, hb2⟩
    rw [HS0.out]
    have hbw2 : Bel w w2 := (by repeat' (first | with_reducible exact Bel.refl _ | with_reducible assumption | with_reducible refine Bel.set ?_ ?_ _ | with_reducible refine Bel.alloc ?_ _ | with_reducible refine Bel.drew ?_ | with_reducible refine Bel.drewN ?_ _ | with_reducible refine Bel.trans ?_ (by with_reducible assumption) | (simp; done) | (simp; omega) | refine Bel.alloc ?_ _ | refine Bel.drew ?_ | refine Bel.drewN ?_ _ | refine Bel.set ?_ ?_ _))
    go_wp2_with (fail)
    all_goals
      go_returns
      exact ⟨ret_bool HE.out.symm, (by repeat' (first | with_reducible exact Bel.refl _ | with_reducible assumption | with_reducible refine Bel.set ?_ ?_ _ | with_reducible refine Bel.alloc ?_ _ | with_reducible refine Bel.drew ?_ | with_reducible refine Bel.drewN ?_ _ | with_reducible refine Bel.trans ?_ (by with_reducible assumption) | (simp; done) | (simp; omega) | refine Bel.alloc ?_ _ | refine Bel.drew ?_ | refine Bel.drewN ?_ _ | refine Bel.set ?_ ?_ _))⟩
end Go.Proofs.Ytmikipcfepgogaa
