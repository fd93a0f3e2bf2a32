/- The program's test of a pattern, case by case. -/
import Derived.Test.YtdjbfneniohaaaaPP1
namespace Go.Proofs.Ytdjbfneniohaaaa
set_option linter.unusedVariables false
set_option linter.unusedSimpArgs false
set_option maxRecDepth 100000
open Go.RowKit
set_option maxHeartbeats 1000000 in
theorem validPattern_ok1 (op : Int) (t : ByteArray) (n lo hi vars : Int) (ks : List TPattern) (A : Option Addr) (c : Nat) (S : Nat → Prop) (w : World) (IH : ∀ (i : Nat) (hi : i < ks.length) (S : Nat → Prop) (w : World) (vs : List Value), Dat.HoldVals w S ks[i].D vs → Calls Try.prog 57 #[.agg vs.toArray, .int .i64 vars] w fun e w' => e = .returned (.bool (ks[i].vld vars)) ∧ Bel w w') (hR : Row w S 6 A c (ks.map TPattern.D)) (hg : op = 1) (hm : ks.length = kidsN op) (ht0 : t.size ≤ 120) (hs : lo = 0 ∧ hi = 0) (hn : n = 0) (hc : c ≤ maxLen) (hlc : ks.length ≤ c) (hvr : 0 ≤ vars ∧ vars ≤ 24) :
  Calls Try.prog 57 #[.agg #[.int .i64 op, .string t, .int .i64 n, .int .i64 lo, .int .i64 hi, .slice A ks.length c], .int .i64 vars] w fun e w' => e = .returned (.bool (TPattern.vlds vars ks)) ∧ Bel w w' := by
 unfold maxLen at hc
 have IH' := hide IH
 have HR := hide hR
 clear IH hR
 subst hg
 have hkn : (((ks.length : Nat) : Int) != ((kidsN 1 : Nat) : Int)) = false := by simp; omega
 have HM := hide hm
 clear hm
 have hlen : decide ((120 : Int) < (t.size : Int)) = false := by simp; omega
 have hlen2 : decide ((t.size : Int) ≤ 120) = true := by simp; omega
 obtain ⟨rfl, rfl⟩ := hs
 subst hn
 go_enter Try.func57, Try.ntmps57
 go_wp2_with (fail)
 go_quiet ((go_at_call 70; exact quiet_ws (patternKids_any _ _)))
 go_wp2_with (fail)
 go_loopw [112] (fun iv wr => ∃ k : Nat, k ≤ ks.length ∧ iv = .int .i64 k ∧ Hid (TPattern.vlds vars (ks.take k) = true) ∧ Bel (w.alloc (.cells #[.int .i64 1, .string t, .int .i64 0, .int .i64 0, .int .i64 0, .slice A ks.length c] 28)) wr) (fun iv _ => ks.length - (intOf iv).toNat)
 case atStart => exact ⟨0, Nat.zero_le _, rfl, hide (by simp [TPattern.vlds]), bl⟩
 case round =>
  obtain ⟨k, hk, rfl, HT, hbx⟩ := hrel
  have hbw : Bel w wr := Bel.trans bl hbx
  rcases Nat.lt_or_ge k ks.length with hlt | hge
  ·
   have hd : decide ((k : Int) < (ks.length : Int)) = true := by simp; omega
   (obtain ⟨b1, o1, x1_0, x1_1, x1_2, x1_3, x1_4, x1_5, A1_5, C1_5, hA1, hS1, hl1, hx1, hv1, g1_0, g1_1, g1_2, g1_3, g1_4, g1_5, c1_0, c1_1, c1_2, c1_3, c1_4, c1_5⟩ := TPattern.at HR.out k hlt; subst hA1; have HV1 := hide (Dat.HoldVals.bel hbw hv1); have hh1 := hbw.box b1 hl1; have hw1 := Nat.lt_of_lt_of_le hl1 (Bel.size hbw); replace c1_0 := (hh1 _).trans c1_0; replace c1_1 := (hh1 _).trans c1_1; replace c1_2 := (hh1 _).trans c1_2; replace c1_3 := (hh1 _).trans c1_3; replace c1_4 := (hh1 _).trans c1_4; replace c1_5 := (hh1 _).trans c1_5; have HX1 := hide hx1; have GR1_5 := hide g1_5; clear hh1 hv1 hx1 hS1 g1_5)
   cases hvk : ks[k].vld vars
   ·
    have HK := hide hvk
    clear hvk
    go_wp2_with (fail)
    refine (IH'.out k hlt S _ _ (Dat.HoldVals.bel bl HV1.out)).mono ?_
    rintro e w1 ⟨rfl, hb1⟩
    rw [HK.out]
    go_wp2_with (fail)
    all_goals
     go_returns
     exact ⟨ret_bool (TPattern.vlds_no hlt HK.out).symm, bl⟩
   ·
    have HK := hide hvk
    clear hvk
    go_wp2_with (fail)
    refine (IH'.out k hlt S _ _ (Dat.HoldVals.bel bl HV1.out)).mono ?_
    rintro e w1 ⟨rfl, hb1⟩
    rw [HK.out]
    go_wp2_with (fail)
    all_goals
     go_roundw
     case rel => exact ⟨k + 1, by omega, by go_num, hide (TPattern.vlds_yes hlt HT.out HK.out), bl⟩
     case measure => simp [intOf]; omega
  ·
   have hd : decide ((k : Int) < (ks.length : Int)) = false := by simp; omega
   go_wp2_with (fail)
   go_returns
   exact ⟨ret_bool (by have := HT.out; rw [List.take_of_length_le (by omega)] at this; exact this.symm), hbw⟩
set_option maxHeartbeats 1000000 in
theorem validPattern_ok2z (op : Int) (t : ByteArray) (n lo hi vars : Int) (ks : List TPattern) (A : Option Addr) (c : Nat) (S : Nat → Prop) (w : World) (IH : ∀ (i : Nat) (hi : i < ks.length) (S : Nat → Prop) (w : World) (vs : List Value), Dat.HoldVals w S ks[i].D vs → Calls Try.prog 57 #[.agg vs.toArray, .int .i64 vars] w fun e w' => e = .returned (.bool (ks[i].vld vars)) ∧ Bel w w') (hR : Row w S 6 A c (ks.map TPattern.D)) (hg : 2 ≤ op ∧ op ≤ 6) (hm : ks.length = kidsN op) (ht0 : t.size = 0) (hs : lo = 0 ∧ hi = 0) (hn0 : 0 ≤ n) (hn : n ≤ 120) (hz : n = 0) (hc : c ≤ maxLen) (hlc : ks.length ≤ c) (hvr : 0 ≤ vars ∧ vars ≤ 24) :
  Calls Try.prog 57 #[.agg #[.int .i64 op, .string t, .int .i64 n, .int .i64 lo, .int .i64 hi, .slice A ks.length c], .int .i64 vars] w fun e w' => e = .returned (.bool (TPattern.vlds vars ks)) ∧ Bel w w' := by
 unfold maxLen at hc
 have IH' := hide IH
 have HR := hide hR
 clear IH hR
 have f0 : decide (op < 1) = false := by simp; omega
 have f1 : decide (23 < op) = false := by simp; omega
 have f2 : decide (op < 7) = true := by simp; omega
 have f3 : decide (10 < op) = false := by simp; omega
 have f4 : decide (2 ≤ op) = true := by simp; omega
 have f5 : decide (op ≤ 6) = true := by simp; omega
 have f6 : decide (7 ≤ op) = false := by simp; omega
 have e1 : (op != 1) = true := by simp; omega
 have e1' : ¬ op = 1 := by omega
 have e16 : ¬ op = 16 := by omega
 have b16 : (op == 16) = false := by simp; omega
 have e17 : ¬ op = 17 := by omega
 have b17 : (op == 17) = false := by simp; omega
 have e18 : ¬ op = 18 := by omega
 have b18 : (op == 18) = false := by simp; omega
 have e20 : ¬ op = 20 := by omega
 have b20 : (op == 20) = false := by simp; omega
 have b1 : (op == 1) = false := by simp; omega
 have hgo := hide hg
 have hkn : (((ks.length : Nat) : Int) != ((kidsN op : Nat) : Int)) = false := by simp; omega
 have HM := hide hm
 clear hm
 have hemp := tlE.2 ht0
 have hemp1 : (!t.toList.isEmpty) = false := by rw [hemp]; rfl
 have hlen : decide ((120 : Int) < (t.size : Int)) = false := by simp; omega
 have hlen2 : decide ((t.size : Int) ≤ 120) = true := by simp; omega
 have H0 := hide ht0
 clear ht0
 obtain ⟨rfl, rfl⟩ := hs
 have q1 : decide (0 ≤ n) = true := by simp; omega
 have q2 : decide (n ≤ 120) = true := by simp; omega
 have hz1 : (n == 0) = true := by simp; omega
 have HZ := hide hz
 clear hz
 go_enter Try.func57, Try.ntmps57
 go_wp2_with (fail)
 go_quiet ((go_at_call 70; exact quiet_ws (patternKids_any _ _)))
 go_wp2_with (fail)
 go_loopw [112] (fun iv wr => ∃ k : Nat, k ≤ ks.length ∧ iv = .int .i64 k ∧ Hid (TPattern.vlds vars (ks.take k) = true) ∧ Bel (w.alloc (.cells #[.int .i64 op, .string t, .int .i64 n, .int .i64 0, .int .i64 0, .slice A ks.length c] 28)) wr) (fun iv _ => ks.length - (intOf iv).toNat)
 case atStart => exact ⟨0, Nat.zero_le _, rfl, hide (by simp [TPattern.vlds]), bl⟩
 case round =>
  obtain ⟨k, hk, rfl, HT, hbx⟩ := hrel
  have hbw : Bel w wr := Bel.trans bl hbx
  rcases Nat.lt_or_ge k ks.length with hlt | hge
  ·
   have hd : decide ((k : Int) < (ks.length : Int)) = true := by simp; omega
   (obtain ⟨b1, o1, x1_0, x1_1, x1_2, x1_3, x1_4, x1_5, A1_5, C1_5, hA1, hS1, hl1, hx1, hv1, g1_0, g1_1, g1_2, g1_3, g1_4, g1_5, c1_0, c1_1, c1_2, c1_3, c1_4, c1_5⟩ := TPattern.at HR.out k hlt; subst hA1; have HV1 := hide (Dat.HoldVals.bel hbw hv1); have hh1 := hbw.box b1 hl1; have hw1 := Nat.lt_of_lt_of_le hl1 (Bel.size hbw); replace c1_0 := (hh1 _).trans c1_0; replace c1_1 := (hh1 _).trans c1_1; replace c1_2 := (hh1 _).trans c1_2; replace c1_3 := (hh1 _).trans c1_3; replace c1_4 := (hh1 _).trans c1_4; replace c1_5 := (hh1 _).trans c1_5; have HX1 := hide hx1; have GR1_5 := hide g1_5; clear hh1 hv1 hx1 hS1 g1_5)
   cases hvk : ks[k].vld vars
   ·
    have HK := hide hvk
    clear hvk
    go_wp2_with (fail)
    refine (IH'.out k hlt S _ _ (Dat.HoldVals.bel bl HV1.out)).mono ?_
    rintro e w1 ⟨rfl, hb1⟩
    rw [HK.out]
    go_wp2_with (fail)
    all_goals
     go_returns
     exact ⟨ret_bool (TPattern.vlds_no hlt HK.out).symm, bl⟩
   ·
    have HK := hide hvk
    clear hvk
    go_wp2_with (fail)
    refine (IH'.out k hlt S _ _ (Dat.HoldVals.bel bl HV1.out)).mono ?_
    rintro e w1 ⟨rfl, hb1⟩
    rw [HK.out]
    go_wp2_with (fail)
    all_goals
     go_roundw
     case rel => exact ⟨k + 1, by omega, by go_num, hide (TPattern.vlds_yes hlt HT.out HK.out), bl⟩
     case measure => simp [intOf]; omega
  ·
   have hd : decide ((k : Int) < (ks.length : Int)) = false := by simp; omega
   go_wp2_with (fail)
   go_returns
   exact ⟨ret_bool (by have := HT.out; rw [List.take_of_length_le (by omega)] at this; exact this.symm), hbw⟩
set_option maxHeartbeats 1000000 in
theorem validPattern_ok2n (op : Int) (t : ByteArray) (n lo hi vars : Int) (ks : List TPattern) (A : Option Addr) (c : Nat) (S : Nat → Prop) (w : World) (IH : ∀ (i : Nat) (hi : i < ks.length) (S : Nat → Prop) (w : World) (vs : List Value), Dat.HoldVals w S ks[i].D vs → Calls Try.prog 57 #[.agg vs.toArray, .int .i64 vars] w fun e w' => e = .returned (.bool (ks[i].vld vars)) ∧ Bel w w') (hR : Row w S 6 A c (ks.map TPattern.D)) (hg : 2 ≤ op ∧ op ≤ 6) (hm : ks.length = kidsN op) (ht0 : t.size = 0) (hs : lo = 0 ∧ hi = 0) (hn0 : 0 ≤ n) (hn : n ≤ 120) (hz : ¬ n = 0) (hc : c ≤ maxLen) (hlc : ks.length ≤ c) (hvr : 0 ≤ vars ∧ vars ≤ 24) :
  Calls Try.prog 57 #[.agg #[.int .i64 op, .string t, .int .i64 n, .int .i64 lo, .int .i64 hi, .slice A ks.length c], .int .i64 vars] w fun e w' => e = .returned (.bool (TPattern.vlds vars ks)) ∧ Bel w w' := by
 unfold maxLen at hc
 have IH' := hide IH
 have HR := hide hR
 clear IH hR
 have f0 : decide (op < 1) = false := by simp; omega
 have f1 : decide (23 < op) = false := by simp; omega
 have f2 : decide (op < 7) = true := by simp; omega
 have f3 : decide (10 < op) = false := by simp; omega
 have f4 : decide (2 ≤ op) = true := by simp; omega
 have f5 : decide (op ≤ 6) = true := by simp; omega
 have f6 : decide (7 ≤ op) = false := by simp; omega
 have e1 : (op != 1) = true := by simp; omega
 have e1' : ¬ op = 1 := by omega
 have e16 : ¬ op = 16 := by omega
 have b16 : (op == 16) = false := by simp; omega
 have e17 : ¬ op = 17 := by omega
 have b17 : (op == 17) = false := by simp; omega
 have e18 : ¬ op = 18 := by omega
 have b18 : (op == 18) = false := by simp; omega
 have e20 : ¬ op = 20 := by omega
 have b20 : (op == 20) = false := by simp; omega
 have b1 : (op == 1) = false := by simp; omega
 have hgo := hide hg
 have hkn : (((ks.length : Nat) : Int) != ((kidsN op : Nat) : Int)) = false := by simp; omega
 have HM := hide hm
 clear hm
 have hemp := tlE.2 ht0
 have hemp1 : (!t.toList.isEmpty) = false := by rw [hemp]; rfl
 have hlen : decide ((120 : Int) < (t.size : Int)) = false := by simp; omega
 have hlen2 : decide ((t.size : Int) ≤ 120) = true := by simp; omega
 have H0 := hide ht0
 clear ht0
 obtain ⟨rfl, rfl⟩ := hs
 have q1 : decide (0 ≤ n) = true := by simp; omega
 have q2 : decide (n ≤ 120) = true := by simp; omega
 have hz1 : (n == 0) = false := by simp; omega
 go_enter Try.func57, Try.ntmps57
 go_wp2_with (fail)
 go_quiet ((go_at_call 70; exact quiet_ws (patternKids_any _ _)))
 go_wp2_with (fail)
 go_loopw [112] (fun iv wr => ∃ k : Nat, k ≤ ks.length ∧ iv = .int .i64 k ∧ Hid (TPattern.vlds vars (ks.take k) = true) ∧ Bel (w.alloc (.cells #[.int .i64 op, .string t, .int .i64 n, .int .i64 0, .int .i64 0, .slice A ks.length c] 28)) wr) (fun iv _ => ks.length - (intOf iv).toNat)
 case atStart => exact ⟨0, Nat.zero_le _, rfl, hide (by simp [TPattern.vlds]), bl⟩
 case round =>
  obtain ⟨k, hk, rfl, HT, hbx⟩ := hrel
  have hbw : Bel w wr := Bel.trans bl hbx
  rcases Nat.lt_or_ge k ks.length with hlt | hge
  ·
   have hd : decide ((k : Int) < (ks.length : Int)) = true := by simp; omega
   (obtain ⟨b1, o1, x1_0, x1_1, x1_2, x1_3, x1_4, x1_5, A1_5, C1_5, hA1, hS1, hl1, hx1, hv1, g1_0, g1_1, g1_2, g1_3, g1_4, g1_5, c1_0, c1_1, c1_2, c1_3, c1_4, c1_5⟩ := TPattern.at HR.out k hlt; subst hA1; have HV1 := hide (Dat.HoldVals.bel hbw hv1); have hh1 := hbw.box b1 hl1; have hw1 := Nat.lt_of_lt_of_le hl1 (Bel.size hbw); replace c1_0 := (hh1 _).trans c1_0; replace c1_1 := (hh1 _).trans c1_1; replace c1_2 := (hh1 _).trans c1_2; replace c1_3 := (hh1 _).trans c1_3; replace c1_4 := (hh1 _).trans c1_4; replace c1_5 := (hh1 _).trans c1_5; have HX1 := hide hx1; have GR1_5 := hide g1_5; clear hh1 hv1 hx1 hS1 g1_5)
   cases hvk : ks[k].vld vars
   ·
    have HK := hide hvk
    clear hvk
    go_wp2_with (fail)
    refine (IH'.out k hlt S _ _ (Dat.HoldVals.bel bl HV1.out)).mono ?_
    rintro e w1 ⟨rfl, hb1⟩
    rw [HK.out]
    go_wp2_with (fail)
    all_goals
     go_returns
     exact ⟨ret_bool (TPattern.vlds_no hlt HK.out).symm, bl⟩
   ·
    have HK := hide hvk
    clear hvk
    go_wp2_with (fail)
    refine (IH'.out k hlt S _ _ (Dat.HoldVals.bel bl HV1.out)).mono ?_
    rintro e w1 ⟨rfl, hb1⟩
    rw [HK.out]
    go_wp2_with (fail)
    all_goals
     go_roundw
     case rel => exact ⟨k + 1, by omega, by go_num, hide (TPattern.vlds_yes hlt HT.out HK.out), bl⟩
     case measure => simp [intOf]; omega
  ·
   have hd : decide ((k : Int) < (ks.length : Int)) = false := by simp; omega
   go_wp2_with (fail)
   go_returns
   exact ⟨ret_bool (by have := HT.out; rw [List.take_of_length_le (by omega)] at this; exact this.symm), hbw⟩
set_option maxHeartbeats 1000000 in
theorem validPattern_ok7a (op : Int) (t : ByteArray) (n lo hi vars : Int) (ks : List TPattern) (A : Option Addr) (c : Nat) (S : Nat → Prop) (w : World) (IH : ∀ (i : Nat) (hi : i < ks.length) (S : Nat → Prop) (w : World) (vs : List Value), Dat.HoldVals w S ks[i].D vs → Calls Try.prog 57 #[.agg vs.toArray, .int .i64 vars] w fun e w' => e = .returned (.bool (ks[i].vld vars)) ∧ Bel w w') (hR : Row w S 6 A c (ks.map TPattern.D)) (hg : 7 ≤ op ∧ op ≤ 10) (hm : ks.length = kidsN op) (ht0 : t.size = 0) (hn : n = 0) (hz : ¬ lo = 0) (hc : c ≤ maxLen) (hlc : ks.length ≤ c) (hvr : 0 ≤ vars ∧ vars ≤ 24) :
  Calls Try.prog 57 #[.agg #[.int .i64 op, .string t, .int .i64 n, .int .i64 lo, .int .i64 hi, .slice A ks.length c], .int .i64 vars] w fun e w' => e = .returned (.bool (TPattern.vlds vars ks)) ∧ Bel w w' := by
 unfold maxLen at hc
 have IH' := hide IH
 have HR := hide hR
 clear IH hR
 have f0 : decide (op < 1) = false := by simp; omega
 have f1 : decide (23 < op) = false := by simp; omega
 have f2 : decide (op < 7) = false := by simp; omega
 have f3 : decide (10 < op) = false := by simp; omega
 have f4 : decide (2 ≤ op) = true := by simp; omega
 have f5 : decide (op ≤ 6) = false := by simp; omega
 have f6 : decide (7 ≤ op) = true := by simp; omega
 have f7 : decide (op ≤ 10) = true := by simp; omega
 have f8 : decide (16 ≤ op) = false := by simp; omega
 have e1 : (op != 1) = true := by simp; omega
 have e1' : ¬ op = 1 := by omega
 have e16 : ¬ op = 16 := by omega
 have b16 : (op == 16) = false := by simp; omega
 have e17 : ¬ op = 17 := by omega
 have b17 : (op == 17) = false := by simp; omega
 have e18 : ¬ op = 18 := by omega
 have b18 : (op == 18) = false := by simp; omega
 have e20 : ¬ op = 20 := by omega
 have b20 : (op == 20) = false := by simp; omega
 have b1 : (op == 1) = false := by simp; omega
 have hgo := hide hg
 have hkn : (((ks.length : Nat) : Int) != ((kidsN op : Nat) : Int)) = false := by simp; omega
 have HM := hide hm
 clear hm
 have hemp := tlE.2 ht0
 have hemp1 : (!t.toList.isEmpty) = false := by rw [hemp]; rfl
 have hlen : decide ((120 : Int) < (t.size : Int)) = false := by simp; omega
 have hlen2 : decide ((t.size : Int) ≤ 120) = true := by simp; omega
 have H0 := hide ht0
 clear ht0
 subst hn
 go_enter Try.func57, Try.ntmps57
 go_wp2_with (fail)
 go_quiet ((go_at_call 70; exact quiet_ws (patternKids_any _ _)))
 go_wp2_with (fail)
 go_loopw [112] (fun iv wr => ∃ k : Nat, k ≤ ks.length ∧ iv = .int .i64 k ∧ Hid (TPattern.vlds vars (ks.take k) = true) ∧ Bel (w.alloc (.cells #[.int .i64 op, .string t, .int .i64 0, .int .i64 lo, .int .i64 hi, .slice A ks.length c] 28)) wr) (fun iv _ => ks.length - (intOf iv).toNat)
 case atStart => exact ⟨0, Nat.zero_le _, rfl, hide (by simp [TPattern.vlds]), bl⟩
 case round =>
  obtain ⟨k, hk, rfl, HT, hbx⟩ := hrel
  have hbw : Bel w wr := Bel.trans bl hbx
  rcases Nat.lt_or_ge k ks.length with hlt | hge
  ·
   have hd : decide ((k : Int) < (ks.length : Int)) = true := by simp; omega
   (obtain ⟨b1, o1, x1_0, x1_1, x1_2, x1_3, x1_4, x1_5, A1_5, C1_5, hA1, hS1, hl1, hx1, hv1, g1_0, g1_1, g1_2, g1_3, g1_4, g1_5, c1_0, c1_1, c1_2, c1_3, c1_4, c1_5⟩ := TPattern.at HR.out k hlt; subst hA1; have HV1 := hide (Dat.HoldVals.bel hbw hv1); have hh1 := hbw.box b1 hl1; have hw1 := Nat.lt_of_lt_of_le hl1 (Bel.size hbw); replace c1_0 := (hh1 _).trans c1_0; replace c1_1 := (hh1 _).trans c1_1; replace c1_2 := (hh1 _).trans c1_2; replace c1_3 := (hh1 _).trans c1_3; replace c1_4 := (hh1 _).trans c1_4; replace c1_5 := (hh1 _).trans c1_5; have HX1 := hide hx1; have GR1_5 := hide g1_5; clear hh1 hv1 hx1 hS1 g1_5)
   cases hvk : ks[k].vld vars
   ·
    have HK := hide hvk
    clear hvk
    go_wp2_with (fail)
    refine (IH'.out k hlt S _ _ (Dat.HoldVals.bel bl HV1.out)).mono ?_
    rintro e w1 ⟨rfl, hb1⟩
    rw [HK.out]
    go_wp2_with (fail)
    all_goals
     go_returns
     exact ⟨ret_bool (TPattern.vlds_no hlt HK.out).symm, bl⟩
   ·
    have HK := hide hvk
    clear hvk
    go_wp2_with (fail)
    refine (IH'.out k hlt S _ _ (Dat.HoldVals.bel bl HV1.out)).mono ?_
    rintro e w1 ⟨rfl, hb1⟩
    rw [HK.out]
    go_wp2_with (fail)
    all_goals
     go_roundw
     case rel => exact ⟨k + 1, by omega, by go_num, hide (TPattern.vlds_yes hlt HT.out HK.out), bl⟩
     case measure => simp [intOf]; omega
  ·
   have hd : decide ((k : Int) < (ks.length : Int)) = false := by simp; omega
   go_wp2_with (fail)
   go_returns
   exact ⟨ret_bool (by have := HT.out; rw [List.take_of_length_le (by omega)] at this; exact this.symm), hbw⟩
set_option maxHeartbeats 1000000 in
theorem validPattern_ok7b (op : Int) (t : ByteArray) (n lo hi vars : Int) (ks : List TPattern) (A : Option Addr) (c : Nat) (S : Nat → Prop) (w : World) (IH : ∀ (i : Nat) (hi : i < ks.length) (S : Nat → Prop) (w : World) (vs : List Value), Dat.HoldVals w S ks[i].D vs → Calls Try.prog 57 #[.agg vs.toArray, .int .i64 vars] w fun e w' => e = .returned (.bool (ks[i].vld vars)) ∧ Bel w w') (hR : Row w S 6 A c (ks.map TPattern.D)) (hg : 7 ≤ op ∧ op ≤ 10) (hm : ks.length = kidsN op) (ht0 : t.size = 0) (hn : n = 0) (hz : lo = 0) (hy : ¬ hi = 0) (hc : c ≤ maxLen) (hlc : ks.length ≤ c) (hvr : 0 ≤ vars ∧ vars ≤ 24) :
  Calls Try.prog 57 #[.agg #[.int .i64 op, .string t, .int .i64 n, .int .i64 lo, .int .i64 hi, .slice A ks.length c], .int .i64 vars] w fun e w' => e = .returned (.bool (TPattern.vlds vars ks)) ∧ Bel w w' := by
 unfold maxLen at hc
 have IH' := hide IH
 have HR := hide hR
 clear IH hR
 have f0 : decide (op < 1) = false := by simp; omega
 have f1 : decide (23 < op) = false := by simp; omega
 have f2 : decide (op < 7) = false := by simp; omega
 have f3 : decide (10 < op) = false := by simp; omega
 have f4 : decide (2 ≤ op) = true := by simp; omega
 have f5 : decide (op ≤ 6) = false := by simp; omega
 have f6 : decide (7 ≤ op) = true := by simp; omega
 have f7 : decide (op ≤ 10) = true := by simp; omega
 have f8 : decide (16 ≤ op) = false := by simp; omega
 have e1 : (op != 1) = true := by simp; omega
 have e1' : ¬ op = 1 := by omega
 have e16 : ¬ op = 16 := by omega
 have b16 : (op == 16) = false := by simp; omega
 have e17 : ¬ op = 17 := by omega
 have b17 : (op == 17) = false := by simp; omega
 have e18 : ¬ op = 18 := by omega
 have b18 : (op == 18) = false := by simp; omega
 have e20 : ¬ op = 20 := by omega
 have b20 : (op == 20) = false := by simp; omega
 have b1 : (op == 1) = false := by simp; omega
 have hgo := hide hg
 have hkn : (((ks.length : Nat) : Int) != ((kidsN op : Nat) : Int)) = false := by simp; omega
 have HM := hide hm
 clear hm
 have hemp := tlE.2 ht0
 have hemp1 : (!t.toList.isEmpty) = false := by rw [hemp]; rfl
 have hlen : decide ((120 : Int) < (t.size : Int)) = false := by simp; omega
 have hlen2 : decide ((t.size : Int) ≤ 120) = true := by simp; omega
 have H0 := hide ht0
 clear ht0
 subst hn
 subst hz
 go_enter Try.func57, Try.ntmps57
 go_wp2_with (fail)
 go_quiet ((go_at_call 70; exact quiet_ws (patternKids_any _ _)))
 go_wp2_with (fail)
 go_loopw [112] (fun iv wr => ∃ k : Nat, k ≤ ks.length ∧ iv = .int .i64 k ∧ Hid (TPattern.vlds vars (ks.take k) = true) ∧ Bel (w.alloc (.cells #[.int .i64 op, .string t, .int .i64 0, .int .i64 0, .int .i64 hi, .slice A ks.length c] 28)) wr) (fun iv _ => ks.length - (intOf iv).toNat)
 case atStart => exact ⟨0, Nat.zero_le _, rfl, hide (by simp [TPattern.vlds]), bl⟩
 case round =>
  obtain ⟨k, hk, rfl, HT, hbx⟩ := hrel
  have hbw : Bel w wr := Bel.trans bl hbx
  rcases Nat.lt_or_ge k ks.length with hlt | hge
  ·
   have hd : decide ((k : Int) < (ks.length : Int)) = true := by simp; omega
   (obtain ⟨b1, o1, x1_0, x1_1, x1_2, x1_3, x1_4, x1_5, A1_5, C1_5, hA1, hS1, hl1, hx1, hv1, g1_0, g1_1, g1_2, g1_3, g1_4, g1_5, c1_0, c1_1, c1_2, c1_3, c1_4, c1_5⟩ := TPattern.at HR.out k hlt; subst hA1; have HV1 := hide (Dat.HoldVals.bel hbw hv1); have hh1 := hbw.box b1 hl1; have hw1 := Nat.lt_of_lt_of_le hl1 (Bel.size hbw); replace c1_0 := (hh1 _).trans c1_0; replace c1_1 := (hh1 _).trans c1_1; replace c1_2 := (hh1 _).trans c1_2; replace c1_3 := (hh1 _).trans c1_3; replace c1_4 := (hh1 _).trans c1_4; replace c1_5 := (hh1 _).trans c1_5; have HX1 := hide hx1; have GR1_5 := hide g1_5; clear hh1 hv1 hx1 hS1 g1_5)
   cases hvk : ks[k].vld vars
   ·
    have HK := hide hvk
    clear hvk
    go_wp2_with (fail)
    refine (IH'.out k hlt S _ _ (Dat.HoldVals.bel bl HV1.out)).mono ?_
    rintro e w1 ⟨rfl, hb1⟩
    rw [HK.out]
    go_wp2_with (fail)
    all_goals
     go_returns
     exact ⟨ret_bool (TPattern.vlds_no hlt HK.out).symm, bl⟩
   ·
    have HK := hide hvk
    clear hvk
    go_wp2_with (fail)
    refine (IH'.out k hlt S _ _ (Dat.HoldVals.bel bl HV1.out)).mono ?_
    rintro e w1 ⟨rfl, hb1⟩
    rw [HK.out]
    go_wp2_with (fail)
    all_goals
     go_roundw
     case rel => exact ⟨k + 1, by omega, by go_num, hide (TPattern.vlds_yes hlt HT.out HK.out), bl⟩
     case measure => simp [intOf]; omega
  ·
   have hd : decide ((k : Int) < (ks.length : Int)) = false := by simp; omega
   go_wp2_with (fail)
   go_returns
   exact ⟨ret_bool (by have := HT.out; rw [List.take_of_length_le (by omega)] at this; exact this.symm), hbw⟩
set_option maxHeartbeats 1000000 in
theorem validPattern_ok7c (op : Int) (t : ByteArray) (n lo hi vars : Int) (ks : List TPattern) (A : Option Addr) (c : Nat) (S : Nat → Prop) (w : World) (IH : ∀ (i : Nat) (hi : i < ks.length) (S : Nat → Prop) (w : World) (vs : List Value), Dat.HoldVals w S ks[i].D vs → Calls Try.prog 57 #[.agg vs.toArray, .int .i64 vars] w fun e w' => e = .returned (.bool (ks[i].vld vars)) ∧ Bel w w') (hR : Row w S 6 A c (ks.map TPattern.D)) (hg : 7 ≤ op ∧ op ≤ 10) (hm : ks.length = kidsN op) (ht0 : t.size = 0) (hn : n = 0) (hz : lo = 0) (hy : hi = 0) (hc : c ≤ maxLen) (hlc : ks.length ≤ c) (hvr : 0 ≤ vars ∧ vars ≤ 24) :
  Calls Try.prog 57 #[.agg #[.int .i64 op, .string t, .int .i64 n, .int .i64 lo, .int .i64 hi, .slice A ks.length c], .int .i64 vars] w fun e w' => e = .returned (.bool (TPattern.vlds vars ks)) ∧ Bel w w' := by
 unfold maxLen at hc
 have IH' := hide IH
 have HR := hide hR
 clear IH hR
 have f0 : decide (op < 1) = false := by simp; omega
 have f1 : decide (23 < op) = false := by simp; omega
 have f2 : decide (op < 7) = false := by simp; omega
 have f3 : decide (10 < op) = false := by simp; omega
 have f4 : decide (2 ≤ op) = true := by simp; omega
 have f5 : decide (op ≤ 6) = false := by simp; omega
 have f6 : decide (7 ≤ op) = true := by simp; omega
 have f7 : decide (op ≤ 10) = true := by simp; omega
 have f8 : decide (16 ≤ op) = false := by simp; omega
 have e1 : (op != 1) = true := by simp; omega
 have e1' : ¬ op = 1 := by omega
 have e16 : ¬ op = 16 := by omega
 have b16 : (op == 16) = false := by simp; omega
 have e17 : ¬ op = 17 := by omega
 have b17 : (op == 17) = false := by simp; omega
 have e18 : ¬ op = 18 := by omega
 have b18 : (op == 18) = false := by simp; omega
 have e20 : ¬ op = 20 := by omega
 have b20 : (op == 20) = false := by simp; omega
 have b1 : (op == 1) = false := by simp; omega
 have hgo := hide hg
 have hkn : (((ks.length : Nat) : Int) != ((kidsN op : Nat) : Int)) = false := by simp; omega
 have HM := hide hm
 clear hm
 have hemp := tlE.2 ht0
 have hemp1 : (!t.toList.isEmpty) = false := by rw [hemp]; rfl
 have hlen : decide ((120 : Int) < (t.size : Int)) = false := by simp; omega
 have hlen2 : decide ((t.size : Int) ≤ 120) = true := by simp; omega
 have H0 := hide ht0
 clear ht0
 subst hn
 subst hz
 subst hy
 go_enter Try.func57, Try.ntmps57
 go_wp2_with (fail)
 go_quiet ((go_at_call 70; exact quiet_ws (patternKids_any _ _)))
 go_wp2_with (fail)
 go_loopw [112] (fun iv wr => ∃ k : Nat, k ≤ ks.length ∧ iv = .int .i64 k ∧ Hid (TPattern.vlds vars (ks.take k) = true) ∧ Bel (w.alloc (.cells #[.int .i64 op, .string t, .int .i64 0, .int .i64 0, .int .i64 0, .slice A ks.length c] 28)) wr) (fun iv _ => ks.length - (intOf iv).toNat)
 case atStart => exact ⟨0, Nat.zero_le _, rfl, hide (by simp [TPattern.vlds]), bl⟩
 case round =>
  obtain ⟨k, hk, rfl, HT, hbx⟩ := hrel
  have hbw : Bel w wr := Bel.trans bl hbx
  rcases Nat.lt_or_ge k ks.length with hlt | hge
  ·
   have hd : decide ((k : Int) < (ks.length : Int)) = true := by simp; omega
   (obtain ⟨b1, o1, x1_0, x1_1, x1_2, x1_3, x1_4, x1_5, A1_5, C1_5, hA1, hS1, hl1, hx1, hv1, g1_0, g1_1, g1_2, g1_3, g1_4, g1_5, c1_0, c1_1, c1_2, c1_3, c1_4, c1_5⟩ := TPattern.at HR.out k hlt; subst hA1; have HV1 := hide (Dat.HoldVals.bel hbw hv1); have hh1 := hbw.box b1 hl1; have hw1 := Nat.lt_of_lt_of_le hl1 (Bel.size hbw); replace c1_0 := (hh1 _).trans c1_0; replace c1_1 := (hh1 _).trans c1_1; replace c1_2 := (hh1 _).trans c1_2; replace c1_3 := (hh1 _).trans c1_3; replace c1_4 := (hh1 _).trans c1_4; replace c1_5 := (hh1 _).trans c1_5; have HX1 := hide hx1; have GR1_5 := hide g1_5; clear hh1 hv1 hx1 hS1 g1_5)
   cases hvk : ks[k].vld vars
   ·
    have HK := hide hvk
    clear hvk
    go_wp2_with (fail)
    refine (IH'.out k hlt S _ _ (Dat.HoldVals.bel bl HV1.out)).mono ?_
    rintro e w1 ⟨rfl, hb1⟩
    rw [HK.out]
    go_wp2_with (fail)
    all_goals
     go_returns
     exact ⟨ret_bool (TPattern.vlds_no hlt HK.out).symm, bl⟩
   ·
    have HK := hide hvk
    clear hvk
    go_wp2_with (fail)
    refine (IH'.out k hlt S _ _ (Dat.HoldVals.bel bl HV1.out)).mono ?_
    rintro e w1 ⟨rfl, hb1⟩
    rw [HK.out]
    go_wp2_with (fail)
    all_goals
     go_roundw
     case rel => exact ⟨k + 1, by omega, by go_num, hide (TPattern.vlds_yes hlt HT.out HK.out), bl⟩
     case measure => simp [intOf]; omega
  ·
   have hd : decide ((k : Int) < (ks.length : Int)) = false := by simp; omega
   go_wp2_with (fail)
   go_returns
   exact ⟨ret_bool (by have := HT.out; rw [List.take_of_length_le (by omega)] at this; exact this.symm), hbw⟩
set_option maxHeartbeats 1000000 in
theorem validPattern_ok16z (op : Int) (t : ByteArray) (n lo hi vars : Int) (ks : List TPattern) (A : Option Addr) (c : Nat) (S : Nat → Prop) (w : World) (IH : ∀ (i : Nat) (hi : i < ks.length) (S : Nat → Prop) (w : World) (vs : List Value), Dat.HoldVals w S ks[i].D vs → Calls Try.prog 57 #[.agg vs.toArray, .int .i64 vars] w fun e w' => e = .returned (.bool (ks[i].vld vars)) ∧ Bel w w') (hR : Row w S 6 A c (ks.map TPattern.D)) (hg : op = 16) (hm : ks.length = kidsN op) (ht0 : t.size = 0) (hs : lo = 0 ∧ hi = 0) (hn0 : 0 ≤ n) (hn : n < vars) (hz : n = 0) (hc : c ≤ maxLen) (hlc : ks.length ≤ c) (hvr : 0 ≤ vars ∧ vars ≤ 24) :
  Calls Try.prog 57 #[.agg #[.int .i64 op, .string t, .int .i64 n, .int .i64 lo, .int .i64 hi, .slice A ks.length c], .int .i64 vars] w fun e w' => e = .returned (.bool (TPattern.vlds vars ks)) ∧ Bel w w' := by
 unfold maxLen at hc
 have IH' := hide IH
 have HR := hide hR
 clear IH hR
 subst hg
 have hkn : (((ks.length : Nat) : Int) != ((kidsN 16 : Nat) : Int)) = false := by simp; omega
 have HM := hide hm
 clear hm
 have hemp := tlE.2 ht0
 have hemp1 : (!t.toList.isEmpty) = false := by rw [hemp]; rfl
 have hlen : decide ((120 : Int) < (t.size : Int)) = false := by simp; omega
 have hlen2 : decide ((t.size : Int) ≤ 120) = true := by simp; omega
 have H0 := hide ht0
 clear ht0
 obtain ⟨rfl, rfl⟩ := hs
 have q1 : decide (0 ≤ n) = true := by simp; omega
 have q2 : decide (n < vars) = true := by simp; omega
 have hz1 : (n == 0) = true := by simp; omega
 have HZ := hide hz
 clear hz
 go_enter Try.func57, Try.ntmps57
 go_wp2_with (fail)
 go_quiet ((go_at_call 70; exact quiet_ws (patternKids_any _ _)))
 go_wp2_with (fail)
 go_loopw [112] (fun iv wr => ∃ k : Nat, k ≤ ks.length ∧ iv = .int .i64 k ∧ Hid (TPattern.vlds vars (ks.take k) = true) ∧ Bel (w.alloc (.cells #[.int .i64 16, .string t, .int .i64 n, .int .i64 0, .int .i64 0, .slice A ks.length c] 28)) wr) (fun iv _ => ks.length - (intOf iv).toNat)
 case atStart => exact ⟨0, Nat.zero_le _, rfl, hide (by simp [TPattern.vlds]), bl⟩
 case round =>
  obtain ⟨k, hk, rfl, HT, hbx⟩ := hrel
  have hbw : Bel w wr := Bel.trans bl hbx
  rcases Nat.lt_or_ge k ks.length with hlt | hge
  ·
   have hd : decide ((k : Int) < (ks.length : Int)) = true := by simp; omega
   (obtain ⟨b1, o1, x1_0, x1_1, x1_2, x1_3, x1_4, x1_5, A1_5, C1_5, hA1, hS1, hl1, hx1, hv1, g1_0, g1_1, g1_2, g1_3, g1_4, g1_5, c1_0, c1_1, c1_2, c1_3, c1_4, c1_5⟩ := TPattern.at HR.out k hlt; subst hA1; have HV1 := hide (Dat.HoldVals.bel hbw hv1); have hh1 := hbw.box b1 hl1; have hw1 := Nat.lt_of_lt_of_le hl1 (Bel.size hbw); replace c1_0 := (hh1 _).trans c1_0; replace c1_1 := (hh1 _).trans c1_1; replace c1_2 := (hh1 _).trans c1_2; replace c1_3 := (hh1 _).trans c1_3; replace c1_4 := (hh1 _).trans c1_4; replace c1_5 := (hh1 _).trans c1_5; have HX1 := hide hx1; have GR1_5 := hide g1_5; clear hh1 hv1 hx1 hS1 g1_5)
   cases hvk : ks[k].vld vars
   ·
    have HK := hide hvk
    clear hvk
    go_wp2_with (fail)
    refine (IH'.out k hlt S _ _ (Dat.HoldVals.bel bl HV1.out)).mono ?_
    rintro e w1 ⟨rfl, hb1⟩
    rw [HK.out]
    go_wp2_with (fail)
    all_goals
     go_returns
     exact ⟨ret_bool (TPattern.vlds_no hlt HK.out).symm, bl⟩
   ·
    have HK := hide hvk
    clear hvk
    go_wp2_with (fail)
    refine (IH'.out k hlt S _ _ (Dat.HoldVals.bel bl HV1.out)).mono ?_
    rintro e w1 ⟨rfl, hb1⟩
    rw [HK.out]
    go_wp2_with (fail)
    all_goals
     go_roundw
     case rel => exact ⟨k + 1, by omega, by go_num, hide (TPattern.vlds_yes hlt HT.out HK.out), bl⟩
     case measure => simp [intOf]; omega
  ·
   have hd : decide ((k : Int) < (ks.length : Int)) = false := by simp; omega
   go_wp2_with (fail)
   go_returns
   exact ⟨ret_bool (by have := HT.out; rw [List.take_of_length_le (by omega)] at this; exact this.symm), hbw⟩
set_option maxHeartbeats 1000000 in
theorem validPattern_ok16n (op : Int) (t : ByteArray) (n lo hi vars : Int) (ks : List TPattern) (A : Option Addr) (c : Nat) (S : Nat → Prop) (w : World) (IH : ∀ (i : Nat) (hi : i < ks.length) (S : Nat → Prop) (w : World) (vs : List Value), Dat.HoldVals w S ks[i].D vs → Calls Try.prog 57 #[.agg vs.toArray, .int .i64 vars] w fun e w' => e = .returned (.bool (ks[i].vld vars)) ∧ Bel w w') (hR : Row w S 6 A c (ks.map TPattern.D)) (hg : op = 16) (hm : ks.length = kidsN op) (ht0 : t.size = 0) (hs : lo = 0 ∧ hi = 0) (hn0 : 0 ≤ n) (hn : n < vars) (hz : ¬ n = 0) (hc : c ≤ maxLen) (hlc : ks.length ≤ c) (hvr : 0 ≤ vars ∧ vars ≤ 24) :
  Calls Try.prog 57 #[.agg #[.int .i64 op, .string t, .int .i64 n, .int .i64 lo, .int .i64 hi, .slice A ks.length c], .int .i64 vars] w fun e w' => e = .returned (.bool (TPattern.vlds vars ks)) ∧ Bel w w' := by
 unfold maxLen at hc
 have IH' := hide IH
 have HR := hide hR
 clear IH hR
 subst hg
 have hkn : (((ks.length : Nat) : Int) != ((kidsN 16 : Nat) : Int)) = false := by simp; omega
 have HM := hide hm
 clear hm
 have hemp := tlE.2 ht0
 have hemp1 : (!t.toList.isEmpty) = false := by rw [hemp]; rfl
 have hlen : decide ((120 : Int) < (t.size : Int)) = false := by simp; omega
 have hlen2 : decide ((t.size : Int) ≤ 120) = true := by simp; omega
 have H0 := hide ht0
 clear ht0
 obtain ⟨rfl, rfl⟩ := hs
 have q1 : decide (0 ≤ n) = true := by simp; omega
 have q2 : decide (n < vars) = true := by simp; omega
 have hz1 : (n == 0) = false := by simp; omega
 go_enter Try.func57, Try.ntmps57
 go_wp2_with (fail)
 go_quiet ((go_at_call 70; exact quiet_ws (patternKids_any _ _)))
 go_wp2_with (fail)
 go_loopw [112] (fun iv wr => ∃ k : Nat, k ≤ ks.length ∧ iv = .int .i64 k ∧ Hid (TPattern.vlds vars (ks.take k) = true) ∧ Bel (w.alloc (.cells #[.int .i64 16, .string t, .int .i64 n, .int .i64 0, .int .i64 0, .slice A ks.length c] 28)) wr) (fun iv _ => ks.length - (intOf iv).toNat)
 case atStart => exact ⟨0, Nat.zero_le _, rfl, hide (by simp [TPattern.vlds]), bl⟩
 case round =>
  obtain ⟨k, hk, rfl, HT, hbx⟩ := hrel
  have hbw : Bel w wr := Bel.trans bl hbx
  rcases Nat.lt_or_ge k ks.length with hlt | hge
  ·
   have hd : decide ((k : Int) < (ks.length : Int)) = true := by simp; omega
   (obtain ⟨b1, o1, x1_0, x1_1, x1_2, x1_3, x1_4, x1_5, A1_5, C1_5, hA1, hS1, hl1, hx1, hv1, g1_0, g1_1, g1_2, g1_3, g1_4, g1_5, c1_0, c1_1, c1_2, c1_3, c1_4, c1_5⟩ := TPattern.at HR.out k hlt; subst hA1; have HV1 := hide (Dat.HoldVals.bel hbw hv1); have hh1 := hbw.box b1 hl1; have hw1 := Nat.lt_of_lt_of_le hl1 (Bel.size hbw); replace c1_0 := (hh1 _).trans c1_0; replace c1_1 := (hh1 _).trans c1_1; replace c1_2 := (hh1 _).trans c1_2; replace c1_3 := (hh1 _).trans c1_3; replace c1_4 := (hh1 _).trans c1_4; replace c1_5 := (hh1 _).trans c1_5; have HX1 := hide hx1; have GR1_5 := hide g1_5; clear hh1 hv1 hx1 hS1 g1_5)
   cases hvk : ks[k].vld vars
   ·
    have HK := hide hvk
    clear hvk
    go_wp2_with (fail)
    refine (IH'.out k hlt S _ _ (Dat.HoldVals.bel bl HV1.out)).mono ?_
    rintro e w1 ⟨rfl, hb1⟩
    rw [HK.out]
    go_wp2_with (fail)
    all_goals
     go_returns
     exact ⟨ret_bool (TPattern.vlds_no hlt HK.out).symm, bl⟩
   ·
    have HK := hide hvk
    clear hvk
    go_wp2_with (fail)
    refine (IH'.out k hlt S _ _ (Dat.HoldVals.bel bl HV1.out)).mono ?_
    rintro e w1 ⟨rfl, hb1⟩
    rw [HK.out]
    go_wp2_with (fail)
    all_goals
     go_roundw
     case rel => exact ⟨k + 1, by omega, by go_num, hide (TPattern.vlds_yes hlt HT.out HK.out), bl⟩
     case measure => simp [intOf]; omega
  ·
   have hd : decide ((k : Int) < (ks.length : Int)) = false := by simp; omega
   go_wp2_with (fail)
   go_returns
   exact ⟨ret_bool (by have := HT.out; rw [List.take_of_length_le (by omega)] at this; exact this.symm), hbw⟩
set_option maxHeartbeats 1000000 in
theorem validPattern_ok17z (op : Int) (t : ByteArray) (n lo hi vars : Int) (ks : List TPattern) (A : Option Addr) (c : Nat) (S : Nat → Prop) (w : World) (IH : ∀ (i : Nat) (hi : i < ks.length) (S : Nat → Prop) (w : World) (vs : List Value), Dat.HoldVals w S ks[i].D vs → Calls Try.prog 57 #[.agg vs.toArray, .int .i64 vars] w fun e w' => e = .returned (.bool (ks[i].vld vars)) ∧ Bel w w') (hR : Row w S 6 A c (ks.map TPattern.D)) (hg : op = 17) (hm : ks.length = kidsN op) (ht0 : t.size = 0) (hs : lo = 0 ∧ hi = 0) (hn0 : 0 ≤ n) (hn : n < vars) (hz : n = 0) (hc : c ≤ maxLen) (hlc : ks.length ≤ c) (hvr : 0 ≤ vars ∧ vars ≤ 24) :
  Calls Try.prog 57 #[.agg #[.int .i64 op, .string t, .int .i64 n, .int .i64 lo, .int .i64 hi, .slice A ks.length c], .int .i64 vars] w fun e w' => e = .returned (.bool (TPattern.vlds vars ks)) ∧ Bel w w' := by
 unfold maxLen at hc
 have IH' := hide IH
 have HR := hide hR
 clear IH hR
 subst hg
 have hkn : (((ks.length : Nat) : Int) != ((kidsN 17 : Nat) : Int)) = false := by simp; omega
 have HM := hide hm
 clear hm
 have hemp := tlE.2 ht0
 have hemp1 : (!t.toList.isEmpty) = false := by rw [hemp]; rfl
 have hlen : decide ((120 : Int) < (t.size : Int)) = false := by simp; omega
 have hlen2 : decide ((t.size : Int) ≤ 120) = true := by simp; omega
 have H0 := hide ht0
 clear ht0
 obtain ⟨rfl, rfl⟩ := hs
 have q1 : decide (0 ≤ n) = true := by simp; omega
 have q2 : decide (n < vars) = true := by simp; omega
 have hz1 : (n == 0) = true := by simp; omega
 have HZ := hide hz
 clear hz
 go_enter Try.func57, Try.ntmps57
 go_wp2_with (fail)
 go_quiet ((go_at_call 70; exact quiet_ws (patternKids_any _ _)))
 go_wp2_with (fail)
 go_loopw [112] (fun iv wr => ∃ k : Nat, k ≤ ks.length ∧ iv = .int .i64 k ∧ Hid (TPattern.vlds vars (ks.take k) = true) ∧ Bel (w.alloc (.cells #[.int .i64 17, .string t, .int .i64 n, .int .i64 0, .int .i64 0, .slice A ks.length c] 28)) wr) (fun iv _ => ks.length - (intOf iv).toNat)
 case atStart => exact ⟨0, Nat.zero_le _, rfl, hide (by simp [TPattern.vlds]), bl⟩
 case round =>
  obtain ⟨k, hk, rfl, HT, hbx⟩ := hrel
  have hbw : Bel w wr := Bel.trans bl hbx
  rcases Nat.lt_or_ge k ks.length with hlt | hge
  ·
   have hd : decide ((k : Int) < (ks.length : Int)) = true := by simp; omega
   (obtain ⟨b1, o1, x1_0, x1_1, x1_2, x1_3, x1_4, x1_5, A1_5, C1_5, hA1, hS1, hl1, hx1, hv1, g1_0, g1_1, g1_2, g1_3, g1_4, g1_5, c1_0, c1_1, c1_2, c1_3, c1_4, c1_5⟩ := TPattern.at HR.out k hlt; subst hA1; have HV1 := hide (Dat.HoldVals.bel hbw hv1); have hh1 := hbw.box b1 hl1; have hw1 := Nat.lt_of_lt_of_le hl1 (Bel.size hbw); replace c1_0 := (hh1 _).trans c1_0; replace c1_1 := (hh1 _).trans c1_1; replace c1_2 := (hh1 _).trans c1_2; replace c1_3 := (hh1 _).trans c1_3; replace c1_4 := (hh1 _).trans c1_4; replace c1_5 := (hh1 _).trans c1_5; have HX1 := hide hx1; have GR1_5 := hide g1_5; clear hh1 hv1 hx1 hS1 g1_5)
   cases hvk : ks[k].vld vars
   ·
    have HK := hide hvk
    clear hvk
    go_wp2_with (fail)
    refine (IH'.out k hlt S _ _ (Dat.HoldVals.bel bl HV1.out)).mono ?_
    rintro e w1 ⟨rfl, hb1⟩
    rw [HK.out]
    go_wp2_with (fail)
    all_goals
     go_returns
     exact ⟨ret_bool (TPattern.vlds_no hlt HK.out).symm, bl⟩
   ·
    have HK := hide hvk
    clear hvk
    go_wp2_with (fail)
    refine (IH'.out k hlt S _ _ (Dat.HoldVals.bel bl HV1.out)).mono ?_
    rintro e w1 ⟨rfl, hb1⟩
    rw [HK.out]
    go_wp2_with (fail)
    all_goals
     go_roundw
     case rel => exact ⟨k + 1, by omega, by go_num, hide (TPattern.vlds_yes hlt HT.out HK.out), bl⟩
     case measure => simp [intOf]; omega
  ·
   have hd : decide ((k : Int) < (ks.length : Int)) = false := by simp; omega
   go_wp2_with (fail)
   go_returns
   exact ⟨ret_bool (by have := HT.out; rw [List.take_of_length_le (by omega)] at this; exact this.symm), hbw⟩
set_option maxHeartbeats 1000000 in
theorem validPattern_ok17n (op : Int) (t : ByteArray) (n lo hi vars : Int) (ks : List TPattern) (A : Option Addr) (c : Nat) (S : Nat → Prop) (w : World) (IH : ∀ (i : Nat) (hi : i < ks.length) (S : Nat → Prop) (w : World) (vs : List Value), Dat.HoldVals w S ks[i].D vs → Calls Try.prog 57 #[.agg vs.toArray, .int .i64 vars] w fun e w' => e = .returned (.bool (ks[i].vld vars)) ∧ Bel w w') (hR : Row w S 6 A c (ks.map TPattern.D)) (hg : op = 17) (hm : ks.length = kidsN op) (ht0 : t.size = 0) (hs : lo = 0 ∧ hi = 0) (hn0 : 0 ≤ n) (hn : n < vars) (hz : ¬ n = 0) (hc : c ≤ maxLen) (hlc : ks.length ≤ c) (hvr : 0 ≤ vars ∧ vars ≤ 24) :
  Calls Try.prog 57 #[.agg #[.int .i64 op, .string t, .int .i64 n, .int .i64 lo, .int .i64 hi, .slice A ks.length c], .int .i64 vars] w fun e w' => e = .returned (.bool (TPattern.vlds vars ks)) ∧ Bel w w' := by
 unfold maxLen at hc
 have IH' := hide IH
 have HR := hide hR
 clear IH hR
 subst hg
 have hkn : (((ks.length : Nat) : Int) != ((kidsN 17 : Nat) : Int)) = false := by simp; omega
 have HM := hide hm
 clear hm
 have hemp := tlE.2 ht0
 have hemp1 : (!t.toList.isEmpty) = false := by rw [hemp]; rfl
 have hlen : decide ((120 : Int) < (t.size : Int)) = false := by simp; omega
 have hlen2 : decide ((t.size : Int) ≤ 120) = true := by simp; omega
 have H0 := hide ht0
 clear ht0
 obtain ⟨rfl, rfl⟩ := hs
 have q1 : decide (0 ≤ n) = true := by simp; omega
 have q2 : decide (n < vars) = true := by simp; omega
 have hz1 : (n == 0) = false := by simp; omega
 go_enter Try.func57, Try.ntmps57
 go_wp2_with (fail)
 go_quiet ((go_at_call 70; exact quiet_ws (patternKids_any _ _)))
 go_wp2_with (fail)
 go_loopw [112] (fun iv wr => ∃ k : Nat, k ≤ ks.length ∧ iv = .int .i64 k ∧ Hid (TPattern.vlds vars (ks.take k) = true) ∧ Bel (w.alloc (.cells #[.int .i64 17, .string t, .int .i64 n, .int .i64 0, .int .i64 0, .slice A ks.length c] 28)) wr) (fun iv _ => ks.length - (intOf iv).toNat)
 case atStart => exact ⟨0, Nat.zero_le _, rfl, hide (by simp [TPattern.vlds]), bl⟩
 case round =>
  obtain ⟨k, hk, rfl, HT, hbx⟩ := hrel
  have hbw : Bel w wr := Bel.trans bl hbx
  rcases Nat.lt_or_ge k ks.length with hlt | hge
  ·
   have hd : decide ((k : Int) < (ks.length : Int)) = true := by simp; omega
   (obtain ⟨b1, o1, x1_0, x1_1, x1_2, x1_3, x1_4, x1_5, A1_5, C1_5, hA1, hS1, hl1, hx1, hv1, g1_0, g1_1, g1_2, g1_3, g1_4, g1_5, c1_0, c1_1, c1_2, c1_3, c1_4, c1_5⟩ := TPattern.at HR.out k hlt; subst hA1; have HV1 := hide (Dat.HoldVals.bel hbw hv1); have hh1 := hbw.box b1 hl1; have hw1 := Nat.lt_of_lt_of_le hl1 (Bel.size hbw); replace c1_0 := (hh1 _).trans c1_0; replace c1_1 := (hh1 _).trans c1_1; replace c1_2 := (hh1 _).trans c1_2; replace c1_3 := (hh1 _).trans c1_3; replace c1_4 := (hh1 _).trans c1_4; replace c1_5 := (hh1 _).trans c1_5; have HX1 := hide hx1; have GR1_5 := hide g1_5; clear hh1 hv1 hx1 hS1 g1_5)
   cases hvk : ks[k].vld vars
   ·
    have HK := hide hvk
    clear hvk
    go_wp2_with (fail)
    refine (IH'.out k hlt S _ _ (Dat.HoldVals.bel bl HV1.out)).mono ?_
    rintro e w1 ⟨rfl, hb1⟩
    rw [HK.out]
    go_wp2_with (fail)
    all_goals
     go_returns
     exact ⟨ret_bool (TPattern.vlds_no hlt HK.out).symm, bl⟩
   ·
    have HK := hide hvk
    clear hvk
    go_wp2_with (fail)
    refine (IH'.out k hlt S _ _ (Dat.HoldVals.bel bl HV1.out)).mono ?_
    rintro e w1 ⟨rfl, hb1⟩
    rw [HK.out]
    go_wp2_with (fail)
    all_goals
     go_roundw
     case rel => exact ⟨k + 1, by omega, by go_num, hide (TPattern.vlds_yes hlt HT.out HK.out), bl⟩
     case measure => simp [intOf]; omega
  ·
   have hd : decide ((k : Int) < (ks.length : Int)) = false := by simp; omega
   go_wp2_with (fail)
   go_returns
   exact ⟨ret_bool (by have := HT.out; rw [List.take_of_length_le (by omega)] at this; exact this.symm), hbw⟩
set_option maxHeartbeats 1000000 in
theorem validPattern_ok18z (op : Int) (t : ByteArray) (n lo hi vars : Int) (ks : List TPattern) (A : Option Addr) (c : Nat) (S : Nat → Prop) (w : World) (IH : ∀ (i : Nat) (hi : i < ks.length) (S : Nat → Prop) (w : World) (vs : List Value), Dat.HoldVals w S ks[i].D vs → Calls Try.prog 57 #[.agg vs.toArray, .int .i64 vars] w fun e w' => e = .returned (.bool (ks[i].vld vars)) ∧ Bel w w') (hR : Row w S 6 A c (ks.map TPattern.D)) (hg : op = 18) (hm : ks.length = kidsN op) (ht0 : t.size = 0) (hs : lo = 0 ∧ hi = 0) (hn0 : 0 ≤ n) (hn : n < vars) (hz : n = 0) (hc : c ≤ maxLen) (hlc : ks.length ≤ c) (hvr : 0 ≤ vars ∧ vars ≤ 24) :
  Calls Try.prog 57 #[.agg #[.int .i64 op, .string t, .int .i64 n, .int .i64 lo, .int .i64 hi, .slice A ks.length c], .int .i64 vars] w fun e w' => e = .returned (.bool (TPattern.vlds vars ks)) ∧ Bel w w' := by
 unfold maxLen at hc
 have IH' := hide IH
 have HR := hide hR
 clear IH hR
 subst hg
 have hkn : (((ks.length : Nat) : Int) != ((kidsN 18 : Nat) : Int)) = false := by simp; omega
 have HM := hide hm
 clear hm
 have hemp := tlE.2 ht0
 have hemp1 : (!t.toList.isEmpty) = false := by rw [hemp]; rfl
 have hlen : decide ((120 : Int) < (t.size : Int)) = false := by simp; omega
 have hlen2 : decide ((t.size : Int) ≤ 120) = true := by simp; omega
 have H0 := hide ht0
 clear ht0
 obtain ⟨rfl, rfl⟩ := hs
 have q1 : decide (0 ≤ n) = true := by simp; omega
 have q2 : decide (n < vars) = true := by simp; omega
 have hz1 : (n == 0) = true := by simp; omega
 have HZ := hide hz
 clear hz
 go_enter Try.func57, Try.ntmps57
 go_wp2_with (fail)
 go_quiet ((go_at_call 70; exact quiet_ws (patternKids_any _ _)))
 go_wp2_with (fail)
 go_loopw [112] (fun iv wr => ∃ k : Nat, k ≤ ks.length ∧ iv = .int .i64 k ∧ Hid (TPattern.vlds vars (ks.take k) = true) ∧ Bel (w.alloc (.cells #[.int .i64 18, .string t, .int .i64 n, .int .i64 0, .int .i64 0, .slice A ks.length c] 28)) wr) (fun iv _ => ks.length - (intOf iv).toNat)
 case atStart => exact ⟨0, Nat.zero_le _, rfl, hide (by simp [TPattern.vlds]), bl⟩
 case round =>
  obtain ⟨k, hk, rfl, HT, hbx⟩ := hrel
  have hbw : Bel w wr := Bel.trans bl hbx
  rcases Nat.lt_or_ge k ks.length with hlt | hge
  ·
   have hd : decide ((k : Int) < (ks.length : Int)) = true := by simp; omega
   (obtain ⟨b1, o1, x1_0, x1_1, x1_2, x1_3, x1_4, x1_5, A1_5, C1_5, hA1, hS1, hl1, hx1, hv1, g1_0, g1_1, g1_2, g1_3, g1_4, g1_5, c1_0, c1_1, c1_2, c1_3, c1_4, c1_5⟩ := TPattern.at HR.out k hlt; subst hA1; have HV1 := hide (Dat.HoldVals.bel hbw hv1); have hh1 := hbw.box b1 hl1; have hw1 := Nat.lt_of_lt_of_le hl1 (Bel.size hbw); replace c1_0 := (hh1 _).trans c1_0; replace c1_1 := (hh1 _).trans c1_1; replace c1_2 := (hh1 _).trans c1_2; replace c1_3 := (hh1 _).trans c1_3; replace c1_4 := (hh1 _).trans c1_4; replace c1_5 := (hh1 _).trans c1_5; have HX1 := hide hx1; have GR1_5 := hide g1_5; clear hh1 hv1 hx1 hS1 g1_5)
   cases hvk : ks[k].vld vars
   ·
    have HK := hide hvk
    clear hvk
    go_wp2_with (fail)
    refine (IH'.out k hlt S _ _ (Dat.HoldVals.bel bl HV1.out)).mono ?_
    rintro e w1 ⟨rfl, hb1⟩
    rw [HK.out]
    go_wp2_with (fail)
    all_goals
     go_returns
     exact ⟨ret_bool (TPattern.vlds_no hlt HK.out).symm, bl⟩
   ·
    have HK := hide hvk
    clear hvk
    go_wp2_with (fail)
    refine (IH'.out k hlt S _ _ (Dat.HoldVals.bel bl HV1.out)).mono ?_
    rintro e w1 ⟨rfl, hb1⟩
    rw [HK.out]
    go_wp2_with (fail)
    all_goals
     go_roundw
     case rel => exact ⟨k + 1, by omega, by go_num, hide (TPattern.vlds_yes hlt HT.out HK.out), bl⟩
     case measure => simp [intOf]; omega
  ·
   have hd : decide ((k : Int) < (ks.length : Int)) = false := by simp; omega
   go_wp2_with (fail)
   go_returns
   exact ⟨ret_bool (by have := HT.out; rw [List.take_of_length_le (by omega)] at this; exact this.symm), hbw⟩
set_option maxHeartbeats 1000000 in
theorem validPattern_ok18n (op : Int) (t : ByteArray) (n lo hi vars : Int) (ks : List TPattern) (A : Option Addr) (c : Nat) (S : Nat → Prop) (w : World) (IH : ∀ (i : Nat) (hi : i < ks.length) (S : Nat → Prop) (w : World) (vs : List Value), Dat.HoldVals w S ks[i].D vs → Calls Try.prog 57 #[.agg vs.toArray, .int .i64 vars] w fun e w' => e = .returned (.bool (ks[i].vld vars)) ∧ Bel w w') (hR : Row w S 6 A c (ks.map TPattern.D)) (hg : op = 18) (hm : ks.length = kidsN op) (ht0 : t.size = 0) (hs : lo = 0 ∧ hi = 0) (hn0 : 0 ≤ n) (hn : n < vars) (hz : ¬ n = 0) (hc : c ≤ maxLen) (hlc : ks.length ≤ c) (hvr : 0 ≤ vars ∧ vars ≤ 24) :
  Calls Try.prog 57 #[.agg #[.int .i64 op, .string t, .int .i64 n, .int .i64 lo, .int .i64 hi, .slice A ks.length c], .int .i64 vars] w fun e w' => e = .returned (.bool (TPattern.vlds vars ks)) ∧ Bel w w' := by
 unfold maxLen at hc
 have IH' := hide IH
 have HR := hide hR
 clear IH hR
 subst hg
 have hkn : (((ks.length : Nat) : Int) != ((kidsN 18 : Nat) : Int)) = false := by simp; omega
 have HM := hide hm
 clear hm
 have hemp := tlE.2 ht0
 have hemp1 : (!t.toList.isEmpty) = false := by rw [hemp]; rfl
 have hlen : decide ((120 : Int) < (t.size : Int)) = false := by simp; omega
 have hlen2 : decide ((t.size : Int) ≤ 120) = true := by simp; omega
 have H0 := hide ht0
 clear ht0
 obtain ⟨rfl, rfl⟩ := hs
 have q1 : decide (0 ≤ n) = true := by simp; omega
 have q2 : decide (n < vars) = true := by simp; omega
 have hz1 : (n == 0) = false := by simp; omega
 go_enter Try.func57, Try.ntmps57
 go_wp2_with (fail)
 go_quiet ((go_at_call 70; exact quiet_ws (patternKids_any _ _)))
 go_wp2_with (fail)
 go_loopw [112] (fun iv wr => ∃ k : Nat, k ≤ ks.length ∧ iv = .int .i64 k ∧ Hid (TPattern.vlds vars (ks.take k) = true) ∧ Bel (w.alloc (.cells #[.int .i64 18, .string t, .int .i64 n, .int .i64 0, .int .i64 0, .slice A ks.length c] 28)) wr) (fun iv _ => ks.length - (intOf iv).toNat)
 case atStart => exact ⟨0, Nat.zero_le _, rfl, hide (by simp [TPattern.vlds]), bl⟩
 case round =>
  obtain ⟨k, hk, rfl, HT, hbx⟩ := hrel
  have hbw : Bel w wr := Bel.trans bl hbx
  rcases Nat.lt_or_ge k ks.length with hlt | hge
  ·
   have hd : decide ((k : Int) < (ks.length : Int)) = true := by simp; omega
   (obtain ⟨b1, o1, x1_0, x1_1, x1_2, x1_3, x1_4, x1_5, A1_5, C1_5, hA1, hS1, hl1, hx1, hv1, g1_0, g1_1, g1_2, g1_3, g1_4, g1_5, c1_0, c1_1, c1_2, c1_3, c1_4, c1_5⟩ := TPattern.at HR.out k hlt; subst hA1; have HV1 := hide (Dat.HoldVals.bel hbw hv1); have hh1 := hbw.box b1 hl1; have hw1 := Nat.lt_of_lt_of_le hl1 (Bel.size hbw); replace c1_0 := (hh1 _).trans c1_0; replace c1_1 := (hh1 _).trans c1_1; replace c1_2 := (hh1 _).trans c1_2; replace c1_3 := (hh1 _).trans c1_3; replace c1_4 := (hh1 _).trans c1_4; replace c1_5 := (hh1 _).trans c1_5; have HX1 := hide hx1; have GR1_5 := hide g1_5; clear hh1 hv1 hx1 hS1 g1_5)
   cases hvk : ks[k].vld vars
   ·
    have HK := hide hvk
    clear hvk
    go_wp2_with (fail)
    refine (IH'.out k hlt S _ _ (Dat.HoldVals.bel bl HV1.out)).mono ?_
    rintro e w1 ⟨rfl, hb1⟩
    rw [HK.out]
    go_wp2_with (fail)
    all_goals
     go_returns
     exact ⟨ret_bool (TPattern.vlds_no hlt HK.out).symm, bl⟩
   ·
    have HK := hide hvk
    clear hvk
    go_wp2_with (fail)
    refine (IH'.out k hlt S _ _ (Dat.HoldVals.bel bl HV1.out)).mono ?_
    rintro e w1 ⟨rfl, hb1⟩
    rw [HK.out]
    go_wp2_with (fail)
    all_goals
     go_roundw
     case rel => exact ⟨k + 1, by omega, by go_num, hide (TPattern.vlds_yes hlt HT.out HK.out), bl⟩
     case measure => simp [intOf]; omega
  ·
   have hd : decide ((k : Int) < (ks.length : Int)) = false := by simp; omega
   go_wp2_with (fail)
   go_returns
   exact ⟨ret_bool (by have := HT.out; rw [List.take_of_length_le (by omega)] at this; exact this.symm), hbw⟩
set_option maxHeartbeats 1000000 in
theorem validPattern_ok19 (op : Int) (t : ByteArray) (n lo hi vars : Int) (ks : List TPattern) (A : Option Addr) (c : Nat) (S : Nat → Prop) (w : World) (IH : ∀ (i : Nat) (hi : i < ks.length) (S : Nat → Prop) (w : World) (vs : List Value), Dat.HoldVals w S ks[i].D vs → Calls Try.prog 57 #[.agg vs.toArray, .int .i64 vars] w fun e w' => e = .returned (.bool (ks[i].vld vars)) ∧ Bel w w') (hR : Row w S 6 A c (ks.map TPattern.D)) (hg : op = 19) (hm : ks.length = kidsN op) (ht0 : t.size = 0) (hs : lo = 0 ∧ hi = 0) (hn : n = 0) (hc : c ≤ maxLen) (hlc : ks.length ≤ c) (hvr : 0 ≤ vars ∧ vars ≤ 24) :
  Calls Try.prog 57 #[.agg #[.int .i64 op, .string t, .int .i64 n, .int .i64 lo, .int .i64 hi, .slice A ks.length c], .int .i64 vars] w fun e w' => e = .returned (.bool (TPattern.vlds vars ks)) ∧ Bel w w' := by
 unfold maxLen at hc
 have IH' := hide IH
 have HR := hide hR
 clear IH hR
 subst hg
 have hkn : (((ks.length : Nat) : Int) != ((kidsN 19 : Nat) : Int)) = false := by simp; omega
 have HM := hide hm
 clear hm
 have hemp := tlE.2 ht0
 have hemp1 : (!t.toList.isEmpty) = false := by rw [hemp]; rfl
 have hlen : decide ((120 : Int) < (t.size : Int)) = false := by simp; omega
 have hlen2 : decide ((t.size : Int) ≤ 120) = true := by simp; omega
 have H0 := hide ht0
 clear ht0
 obtain ⟨rfl, rfl⟩ := hs
 subst hn
 go_enter Try.func57, Try.ntmps57
 go_wp2_with (fail)
 go_quiet ((go_at_call 70; exact quiet_ws (patternKids_any _ _)))
 go_wp2_with (fail)
 go_loopw [112] (fun iv wr => ∃ k : Nat, k ≤ ks.length ∧ iv = .int .i64 k ∧ Hid (TPattern.vlds vars (ks.take k) = true) ∧ Bel (w.alloc (.cells #[.int .i64 19, .string t, .int .i64 0, .int .i64 0, .int .i64 0, .slice A ks.length c] 28)) wr) (fun iv _ => ks.length - (intOf iv).toNat)
 case atStart => exact ⟨0, Nat.zero_le _, rfl, hide (by simp [TPattern.vlds]), bl⟩
 case round =>
  obtain ⟨k, hk, rfl, HT, hbx⟩ := hrel
  have hbw : Bel w wr := Bel.trans bl hbx
  rcases Nat.lt_or_ge k ks.length with hlt | hge
  ·
   have hd : decide ((k : Int) < (ks.length : Int)) = true := by simp; omega
   (obtain ⟨b1, o1, x1_0, x1_1, x1_2, x1_3, x1_4, x1_5, A1_5, C1_5, hA1, hS1, hl1, hx1, hv1, g1_0, g1_1, g1_2, g1_3, g1_4, g1_5, c1_0, c1_1, c1_2, c1_3, c1_4, c1_5⟩ := TPattern.at HR.out k hlt; subst hA1; have HV1 := hide (Dat.HoldVals.bel hbw hv1); have hh1 := hbw.box b1 hl1; have hw1 := Nat.lt_of_lt_of_le hl1 (Bel.size hbw); replace c1_0 := (hh1 _).trans c1_0; replace c1_1 := (hh1 _).trans c1_1; replace c1_2 := (hh1 _).trans c1_2; replace c1_3 := (hh1 _).trans c1_3; replace c1_4 := (hh1 _).trans c1_4; replace c1_5 := (hh1 _).trans c1_5; have HX1 := hide hx1; have GR1_5 := hide g1_5; clear hh1 hv1 hx1 hS1 g1_5)
   cases hvk : ks[k].vld vars
   ·
    have HK := hide hvk
    clear hvk
    go_wp2_with (fail)
    refine (IH'.out k hlt S _ _ (Dat.HoldVals.bel bl HV1.out)).mono ?_
    rintro e w1 ⟨rfl, hb1⟩
    rw [HK.out]
    go_wp2_with (fail)
    all_goals
     go_returns
     exact ⟨ret_bool (TPattern.vlds_no hlt HK.out).symm, bl⟩
   ·
    have HK := hide hvk
    clear hvk
    go_wp2_with (fail)
    refine (IH'.out k hlt S _ _ (Dat.HoldVals.bel bl HV1.out)).mono ?_
    rintro e w1 ⟨rfl, hb1⟩
    rw [HK.out]
    go_wp2_with (fail)
    all_goals
     go_roundw
     case rel => exact ⟨k + 1, by omega, by go_num, hide (TPattern.vlds_yes hlt HT.out HK.out), bl⟩
     case measure => simp [intOf]; omega
  ·
   have hd : decide ((k : Int) < (ks.length : Int)) = false := by simp; omega
   go_wp2_with (fail)
   go_returns
   exact ⟨ret_bool (by have := HT.out; rw [List.take_of_length_le (by omega)] at this; exact this.symm), hbw⟩
set_option maxHeartbeats 1000000 in
theorem validPattern_ok20z (op : Int) (t : ByteArray) (n lo hi vars : Int) (ks : List TPattern) (A : Option Addr) (c : Nat) (S : Nat → Prop) (w : World) (IH : ∀ (i : Nat) (hi : i < ks.length) (S : Nat → Prop) (w : World) (vs : List Value), Dat.HoldVals w S ks[i].D vs → Calls Try.prog 57 #[.agg vs.toArray, .int .i64 vars] w fun e w' => e = .returned (.bool (ks[i].vld vars)) ∧ Bel w w') (hR : Row w S 6 A c (ks.map TPattern.D)) (hg : op = 20) (hm : ks.length = kidsN op) (ht0 : t.size = 0) (hs : lo = 0 ∧ hi = 0) (hn0 : 0 ≤ n) (hn : n < vars) (hz : n = 0) (hc : c ≤ maxLen) (hlc : ks.length ≤ c) (hvr : 0 ≤ vars ∧ vars ≤ 24) :
  Calls Try.prog 57 #[.agg #[.int .i64 op, .string t, .int .i64 n, .int .i64 lo, .int .i64 hi, .slice A ks.length c], .int .i64 vars] w fun e w' => e = .returned (.bool (TPattern.vlds vars ks)) ∧ Bel w w' := by
 unfold maxLen at hc
 have IH' := hide IH
 have HR := hide hR
 clear IH hR
 subst hg
 have hkn : (((ks.length : Nat) : Int) != ((kidsN 20 : Nat) : Int)) = false := by simp; omega
 have HM := hide hm
 clear hm
 have hemp := tlE.2 ht0
 have hemp1 : (!t.toList.isEmpty) = false := by rw [hemp]; rfl
 have hlen : decide ((120 : Int) < (t.size : Int)) = false := by simp; omega
 have hlen2 : decide ((t.size : Int) ≤ 120) = true := by simp; omega
 have H0 := hide ht0
 clear ht0
 obtain ⟨rfl, rfl⟩ := hs
 have q1 : decide (0 ≤ n) = true := by simp; omega
 have q2 : decide (n < vars) = true := by simp; omega
 have hz1 : (n == 0) = true := by simp; omega
 have HZ := hide hz
 clear hz
 go_enter Try.func57, Try.ntmps57
 go_wp2_with (fail)
 go_quiet ((go_at_call 70; exact quiet_ws (patternKids_any _ _)))
 go_wp2_with (fail)
 go_loopw [112] (fun iv wr => ∃ k : Nat, k ≤ ks.length ∧ iv = .int .i64 k ∧ Hid (TPattern.vlds vars (ks.take k) = true) ∧ Bel (w.alloc (.cells #[.int .i64 20, .string t, .int .i64 n, .int .i64 0, .int .i64 0, .slice A ks.length c] 28)) wr) (fun iv _ => ks.length - (intOf iv).toNat)
 case atStart => exact ⟨0, Nat.zero_le _, rfl, hide (by simp [TPattern.vlds]), bl⟩
 case round =>
  obtain ⟨k, hk, rfl, HT, hbx⟩ := hrel
  have hbw : Bel w wr := Bel.trans bl hbx
  rcases Nat.lt_or_ge k ks.length with hlt | hge
  ·
   have hd : decide ((k : Int) < (ks.length : Int)) = true := by simp; omega
   (obtain ⟨b1, o1, x1_0, x1_1, x1_2, x1_3, x1_4, x1_5, A1_5, C1_5, hA1, hS1, hl1, hx1, hv1, g1_0, g1_1, g1_2, g1_3, g1_4, g1_5, c1_0, c1_1, c1_2, c1_3, c1_4, c1_5⟩ := TPattern.at HR.out k hlt; subst hA1; have HV1 := hide (Dat.HoldVals.bel hbw hv1); have hh1 := hbw.box b1 hl1; have hw1 := Nat.lt_of_lt_of_le hl1 (Bel.size hbw); replace c1_0 := (hh1 _).trans c1_0; replace c1_1 := (hh1 _).trans c1_1; replace c1_2 := (hh1 _).trans c1_2; replace c1_3 := (hh1 _).trans c1_3; replace c1_4 := (hh1 _).trans c1_4; replace c1_5 := (hh1 _).trans c1_5; have HX1 := hide hx1; have GR1_5 := hide g1_5; clear hh1 hv1 hx1 hS1 g1_5)
   cases hvk : ks[k].vld vars
   ·
    have HK := hide hvk
    clear hvk
    go_wp2_with (fail)
    refine (IH'.out k hlt S _ _ (Dat.HoldVals.bel bl HV1.out)).mono ?_
    rintro e w1 ⟨rfl, hb1⟩
    rw [HK.out]
    go_wp2_with (fail)
    all_goals
     go_returns
     exact ⟨ret_bool (TPattern.vlds_no hlt HK.out).symm, bl⟩
   ·
    have HK := hide hvk
    clear hvk
    go_wp2_with (fail)
    refine (IH'.out k hlt S _ _ (Dat.HoldVals.bel bl HV1.out)).mono ?_
    rintro e w1 ⟨rfl, hb1⟩
    rw [HK.out]
    go_wp2_with (fail)
    all_goals
     go_roundw
     case rel => exact ⟨k + 1, by omega, by go_num, hide (TPattern.vlds_yes hlt HT.out HK.out), bl⟩
     case measure => simp [intOf]; omega
  ·
   have hd : decide ((k : Int) < (ks.length : Int)) = false := by simp; omega
   go_wp2_with (fail)
   go_returns
   exact ⟨ret_bool (by have := HT.out; rw [List.take_of_length_le (by omega)] at this; exact this.symm), hbw⟩
set_option maxHeartbeats 1000000 in
theorem validPattern_ok20n (op : Int) (t : ByteArray) (n lo hi vars : Int) (ks : List TPattern) (A : Option Addr) (c : Nat) (S : Nat → Prop) (w : World) (IH : ∀ (i : Nat) (hi : i < ks.length) (S : Nat → Prop) (w : World) (vs : List Value), Dat.HoldVals w S ks[i].D vs → Calls Try.prog 57 #[.agg vs.toArray, .int .i64 vars] w fun e w' => e = .returned (.bool (ks[i].vld vars)) ∧ Bel w w') (hR : Row w S 6 A c (ks.map TPattern.D)) (hg : op = 20) (hm : ks.length = kidsN op) (ht0 : t.size = 0) (hs : lo = 0 ∧ hi = 0) (hn0 : 0 ≤ n) (hn : n < vars) (hz : ¬ n = 0) (hc : c ≤ maxLen) (hlc : ks.length ≤ c) (hvr : 0 ≤ vars ∧ vars ≤ 24) :
  Calls Try.prog 57 #[.agg #[.int .i64 op, .string t, .int .i64 n, .int .i64 lo, .int .i64 hi, .slice A ks.length c], .int .i64 vars] w fun e w' => e = .returned (.bool (TPattern.vlds vars ks)) ∧ Bel w w' := by
 unfold maxLen at hc
 have IH' := hide IH
 have HR := hide hR
 clear IH hR
 subst hg
 have hkn : (((ks.length : Nat) : Int) != ((kidsN 20 : Nat) : Int)) = false := by simp; omega
 have HM := hide hm
 clear hm
 have hemp := tlE.2 ht0
 have hemp1 : (!t.toList.isEmpty) = false := by rw [hemp]; rfl
 have hlen : decide ((120 : Int) < (t.size : Int)) = false := by simp; omega
 have hlen2 : decide ((t.size : Int) ≤ 120) = true := by simp; omega
 have H0 := hide ht0
 clear ht0
 obtain ⟨rfl, rfl⟩ := hs
 have q1 : decide (0 ≤ n) = true := by simp; omega
 have q2 : decide (n < vars) = true := by simp; omega
 have hz1 : (n == 0) = false := by simp; omega
 go_enter Try.func57, Try.ntmps57
 go_wp2_with (fail)
 go_quiet ((go_at_call 70; exact quiet_ws (patternKids_any _ _)))
 go_wp2_with (fail)
 go_loopw [112] (fun iv wr => ∃ k : Nat, k ≤ ks.length ∧ iv = .int .i64 k ∧ Hid (TPattern.vlds vars (ks.take k) = true) ∧ Bel (w.alloc (.cells #[.int .i64 20, .string t, .int .i64 n, .int .i64 0, .int .i64 0, .slice A ks.length c] 28)) wr) (fun iv _ => ks.length - (intOf iv).toNat)
 case atStart => exact ⟨0, Nat.zero_le _, rfl, hide (by simp [TPattern.vlds]), bl⟩
 case round =>
  obtain ⟨k, hk, rfl, HT, hbx⟩ := hrel
  have hbw : Bel w wr := Bel.trans bl hbx
  rcases Nat.lt_or_ge k ks.length with hlt | hge
  ·
   have hd : decide ((k : Int) < (ks.length : Int)) = true := by simp; omega
   (obtain ⟨b1, o1, x1_0, x1_1, x1_2, x1_3, x1_4, x1_5, A1_5, C1_5, hA1, hS1, hl1, hx1, hv1, g1_0, g1_1, g1_2, g1_3, g1_4, g1_5, c1_0, c1_1, c1_2, c1_3, c1_4, c1_5⟩ := TPattern.at HR.out k hlt; subst hA1; have HV1 := hide (Dat.HoldVals.bel hbw hv1); have hh1 := hbw.box b1 hl1; have hw1 := Nat.lt_of_lt_of_le hl1 (Bel.size hbw); replace c1_0 := (hh1 _).trans c1_0; replace c1_1 := (hh1 _).trans c1_1; replace c1_2 := (hh1 _).trans c1_2; replace c1_3 := (hh1 _).trans c1_3; replace c1_4 := (hh1 _).trans c1_4; replace c1_5 := (hh1 _).trans c1_5; have HX1 := hide hx1; have GR1_5 := hide g1_5; clear hh1 hv1 hx1 hS1 g1_5)
   cases hvk : ks[k].vld vars
   ·
    have HK := hide hvk
    clear hvk
    go_wp2_with (fail)
    refine (IH'.out k hlt S _ _ (Dat.HoldVals.bel bl HV1.out)).mono ?_
    rintro e w1 ⟨rfl, hb1⟩
    rw [HK.out]
    go_wp2_with (fail)
    all_goals
     go_returns
     exact ⟨ret_bool (TPattern.vlds_no hlt HK.out).symm, bl⟩
   ·
    have HK := hide hvk
    clear hvk
    go_wp2_with (fail)
    refine (IH'.out k hlt S _ _ (Dat.HoldVals.bel bl HV1.out)).mono ?_
    rintro e w1 ⟨rfl, hb1⟩
    rw [HK.out]
    go_wp2_with (fail)
    all_goals
     go_roundw
     case rel => exact ⟨k + 1, by omega, by go_num, hide (TPattern.vlds_yes hlt HT.out HK.out), bl⟩
     case measure => simp [intOf]; omega
  ·
   have hd : decide ((k : Int) < (ks.length : Int)) = false := by simp; omega
   go_wp2_with (fail)
   go_returns
   exact ⟨ret_bool (by have := HT.out; rw [List.take_of_length_le (by omega)] at this; exact this.symm), hbw⟩
set_option maxHeartbeats 1000000 in
theorem validPattern_okx (op : Int) (t : ByteArray) (n lo hi vars : Int) (ks : List TPattern) (A : Option Addr) (c : Nat) (S : Nat → Prop) (w : World) (IH : ∀ (i : Nat) (hi : i < ks.length) (S : Nat → Prop) (w : World) (vs : List Value), Dat.HoldVals w S ks[i].D vs → Calls Try.prog 57 #[.agg vs.toArray, .int .i64 vars] w fun e w' => e = .returned (.bool (ks[i].vld vars)) ∧ Bel w w') (hR : Row w S 6 A c (ks.map TPattern.D)) (hg : 11 ≤ op ∧ op ≤ 15) (hm : ks.length = kidsN op) (ht0 : t.size = 0) (hs : lo = 0 ∧ hi = 0) (hn : n = 0) (hc : c ≤ maxLen) (hlc : ks.length ≤ c) (hvr : 0 ≤ vars ∧ vars ≤ 24) :
  Calls Try.prog 57 #[.agg #[.int .i64 op, .string t, .int .i64 n, .int .i64 lo, .int .i64 hi, .slice A ks.length c], .int .i64 vars] w fun e w' => e = .returned (.bool (TPattern.vlds vars ks)) ∧ Bel w w' := by
 unfold maxLen at hc
 have IH' := hide IH
 have HR := hide hR
 clear IH hR
 have f0 : decide (op < 1) = false := by simp; omega
 have f1 : decide (23 < op) = false := by simp; omega
 have f2 : decide (op < 7) = false := by simp; omega
 have f3 : decide (10 < op) = true := by simp; omega
 have f4 : decide (2 ≤ op) = true := by simp; omega
 have f5 : decide (op ≤ 6) = false := by simp; omega
 have f6 : decide (7 ≤ op) = true := by simp; omega
 have f7 : decide (op ≤ 10) = false := by simp; omega
 have f8 : decide (16 ≤ op) = false := by simp; omega
 have e1 : (op != 1) = true := by simp; omega
 have e1' : ¬ op = 1 := by omega
 have e16 : ¬ op = 16 := by omega
 have b16 : (op == 16) = false := by simp; omega
 have e17 : ¬ op = 17 := by omega
 have b17 : (op == 17) = false := by simp; omega
 have e18 : ¬ op = 18 := by omega
 have b18 : (op == 18) = false := by simp; omega
 have e20 : ¬ op = 20 := by omega
 have b20 : (op == 20) = false := by simp; omega
 have b1 : (op == 1) = false := by simp; omega
 have hgo := hide hg
 have hkn : (((ks.length : Nat) : Int) != ((kidsN op : Nat) : Int)) = false := by simp; omega
 have HM := hide hm
 clear hm
 have hemp := tlE.2 ht0
 have hemp1 : (!t.toList.isEmpty) = false := by rw [hemp]; rfl
 have hlen : decide ((120 : Int) < (t.size : Int)) = false := by simp; omega
 have hlen2 : decide ((t.size : Int) ≤ 120) = true := by simp; omega
 have H0 := hide ht0
 clear ht0
 obtain ⟨rfl, rfl⟩ := hs
 subst hn
 go_enter Try.func57, Try.ntmps57
 go_wp2_with (fail)
 go_quiet ((go_at_call 70; exact quiet_ws (patternKids_any _ _)))
 go_wp2_with (fail)
 go_loopw [112] (fun iv wr => ∃ k : Nat, k ≤ ks.length ∧ iv = .int .i64 k ∧ Hid (TPattern.vlds vars (ks.take k) = true) ∧ Bel (w.alloc (.cells #[.int .i64 op, .string t, .int .i64 0, .int .i64 0, .int .i64 0, .slice A ks.length c] 28)) wr) (fun iv _ => ks.length - (intOf iv).toNat)
 case atStart => exact ⟨0, Nat.zero_le _, rfl, hide (by simp [TPattern.vlds]), bl⟩
 case round =>
  obtain ⟨k, hk, rfl, HT, hbx⟩ := hrel
  have hbw : Bel w wr := Bel.trans bl hbx
  rcases Nat.lt_or_ge k ks.length with hlt | hge
  ·
   have hd : decide ((k : Int) < (ks.length : Int)) = true := by simp; omega
   (obtain ⟨b1, o1, x1_0, x1_1, x1_2, x1_3, x1_4, x1_5, A1_5, C1_5, hA1, hS1, hl1, hx1, hv1, g1_0, g1_1, g1_2, g1_3, g1_4, g1_5, c1_0, c1_1, c1_2, c1_3, c1_4, c1_5⟩ := TPattern.at HR.out k hlt; subst hA1; have HV1 := hide (Dat.HoldVals.bel hbw hv1); have hh1 := hbw.box b1 hl1; have hw1 := Nat.lt_of_lt_of_le hl1 (Bel.size hbw); replace c1_0 := (hh1 _).trans c1_0; replace c1_1 := (hh1 _).trans c1_1; replace c1_2 := (hh1 _).trans c1_2; replace c1_3 := (hh1 _).trans c1_3; replace c1_4 := (hh1 _).trans c1_4; replace c1_5 := (hh1 _).trans c1_5; have HX1 := hide hx1; have GR1_5 := hide g1_5; clear hh1 hv1 hx1 hS1 g1_5)
   cases hvk : ks[k].vld vars
   ·
    have HK := hide hvk
    clear hvk
    go_wp2_with (fail)
    refine (IH'.out k hlt S _ _ (Dat.HoldVals.bel bl HV1.out)).mono ?_
    rintro e w1 ⟨rfl, hb1⟩
    rw [HK.out]
    go_wp2_with (fail)
    all_goals
     go_returns
     exact ⟨ret_bool (TPattern.vlds_no hlt HK.out).symm, bl⟩
   ·
    have HK := hide hvk
    clear hvk
    go_wp2_with (fail)
    refine (IH'.out k hlt S _ _ (Dat.HoldVals.bel bl HV1.out)).mono ?_
    rintro e w1 ⟨rfl, hb1⟩
    rw [HK.out]
    go_wp2_with (fail)
    all_goals
     go_roundw
     case rel => exact ⟨k + 1, by omega, by go_num, hide (TPattern.vlds_yes hlt HT.out HK.out), bl⟩
     case measure => simp [intOf]; omega
  ·
   have hd : decide ((k : Int) < (ks.length : Int)) = false := by simp; omega
   go_wp2_with (fail)
   go_returns
   exact ⟨ret_bool (by have := HT.out; rw [List.take_of_length_le (by omega)] at this; exact this.symm), hbw⟩
set_option maxHeartbeats 1000000 in
theorem validPattern_oky (op : Int) (t : ByteArray) (n lo hi vars : Int) (ks : List TPattern) (A : Option Addr) (c : Nat) (S : Nat → Prop) (w : World) (IH : ∀ (i : Nat) (hi : i < ks.length) (S : Nat → Prop) (w : World) (vs : List Value), Dat.HoldVals w S ks[i].D vs → Calls Try.prog 57 #[.agg vs.toArray, .int .i64 vars] w fun e w' => e = .returned (.bool (ks[i].vld vars)) ∧ Bel w w') (hR : Row w S 6 A c (ks.map TPattern.D)) (hg : 21 ≤ op ∧ op ≤ 23) (hm : ks.length = kidsN op) (ht0 : t.size = 0) (hs : lo = 0 ∧ hi = 0) (hn : n = 0) (hc : c ≤ maxLen) (hlc : ks.length ≤ c) (hvr : 0 ≤ vars ∧ vars ≤ 24) :
  Calls Try.prog 57 #[.agg #[.int .i64 op, .string t, .int .i64 n, .int .i64 lo, .int .i64 hi, .slice A ks.length c], .int .i64 vars] w fun e w' => e = .returned (.bool (TPattern.vlds vars ks)) ∧ Bel w w' := by
 unfold maxLen at hc
 have IH' := hide IH
 have HR := hide hR
 clear IH hR
 have f0 : decide (op < 1) = false := by simp; omega
 have f1 : decide (23 < op) = false := by simp; omega
 have f2 : decide (op < 7) = false := by simp; omega
 have f3 : decide (10 < op) = true := by simp; omega
 have f4 : decide (2 ≤ op) = true := by simp; omega
 have f5 : decide (op ≤ 6) = false := by simp; omega
 have f6 : decide (7 ≤ op) = true := by simp; omega
 have f7 : decide (op ≤ 10) = false := by simp; omega
 have f8 : decide (16 ≤ op) = true := by simp; omega
 have f9 : decide (op ≤ 20) = false := by simp; omega
 have e1 : (op != 1) = true := by simp; omega
 have e1' : ¬ op = 1 := by omega
 have e16 : ¬ op = 16 := by omega
 have b16 : (op == 16) = false := by simp; omega
 have e17 : ¬ op = 17 := by omega
 have b17 : (op == 17) = false := by simp; omega
 have e18 : ¬ op = 18 := by omega
 have b18 : (op == 18) = false := by simp; omega
 have e20 : ¬ op = 20 := by omega
 have b20 : (op == 20) = false := by simp; omega
 have b1 : (op == 1) = false := by simp; omega
 have hgo := hide hg
 have hkn : (((ks.length : Nat) : Int) != ((kidsN op : Nat) : Int)) = false := by simp; omega
 have HM := hide hm
 clear hm
 have hemp := tlE.2 ht0
 have hemp1 : (!t.toList.isEmpty) = false := by rw [hemp]; rfl
 have hlen : decide ((120 : Int) < (t.size : Int)) = false := by simp; omega
 have hlen2 : decide ((t.size : Int) ≤ 120) = true := by simp; omega
 have H0 := hide ht0
 clear ht0
 obtain ⟨rfl, rfl⟩ := hs
 subst hn
 go_enter Try.func57, Try.ntmps57
 go_wp2_with (fail)
 go_quiet ((go_at_call 70; exact quiet_ws (patternKids_any _ _)))
 go_wp2_with (fail)
 go_loopw [112] (fun iv wr => ∃ k : Nat, k ≤ ks.length ∧ iv = .int .i64 k ∧ Hid (TPattern.vlds vars (ks.take k) = true) ∧ Bel (w.alloc (.cells #[.int .i64 op, .string t, .int .i64 0, .int .i64 0, .int .i64 0, .slice A ks.length c] 28)) wr) (fun iv _ => ks.length - (intOf iv).toNat)
 case atStart => exact ⟨0, Nat.zero_le _, rfl, hide (by simp [TPattern.vlds]), bl⟩
 case round =>
  obtain ⟨k, hk, rfl, HT, hbx⟩ := hrel
  have hbw : Bel w wr := Bel.trans bl hbx
  rcases Nat.lt_or_ge k ks.length with hlt | hge
  ·
   have hd : decide ((k : Int) < (ks.length : Int)) = true := by simp; omega
   (obtain ⟨b1, o1, x1_0, x1_1, x1_2, x1_3, x1_4, x1_5, A1_5, C1_5, hA1, hS1, hl1, hx1, hv1, g1_0, g1_1, g1_2, g1_3, g1_4, g1_5, c1_0, c1_1, c1_2, c1_3, c1_4, c1_5⟩ := TPattern.at HR.out k hlt; subst hA1; have HV1 := hide (Dat.HoldVals.bel hbw hv1); have hh1 := hbw.box b1 hl1; have hw1 := Nat.lt_of_lt_of_le hl1 (Bel.size hbw); replace c1_0 := (hh1 _).trans c1_0; replace c1_1 := (hh1 _).trans c1_1; replace c1_2 := (hh1 _).trans c1_2; replace c1_3 := (hh1 _).trans c1_3; replace c1_4 := (hh1 _).trans c1_4; replace c1_5 := (hh1 _).trans c1_5; have HX1 := hide hx1; have GR1_5 := hide g1_5; clear hh1 hv1 hx1 hS1 g1_5)
   cases hvk : ks[k].vld vars
   ·
    have HK := hide hvk
    clear hvk
    go_wp2_with (fail)
    refine (IH'.out k hlt S _ _ (Dat.HoldVals.bel bl HV1.out)).mono ?_
    rintro e w1 ⟨rfl, hb1⟩
    rw [HK.out]
    go_wp2_with (fail)
    all_goals
     go_returns
     exact ⟨ret_bool (TPattern.vlds_no hlt HK.out).symm, bl⟩
   ·
    have HK := hide hvk
    clear hvk
    go_wp2_with (fail)
    refine (IH'.out k hlt S _ _ (Dat.HoldVals.bel bl HV1.out)).mono ?_
    rintro e w1 ⟨rfl, hb1⟩
    rw [HK.out]
    go_wp2_with (fail)
    all_goals
     go_roundw
     case rel => exact ⟨k + 1, by omega, by go_num, hide (TPattern.vlds_yes hlt HT.out HK.out), bl⟩
     case measure => simp [intOf]; omega
  ·
   have hd : decide ((k : Int) < (ks.length : Int)) = false := by simp; omega
   go_wp2_with (fail)
   go_returns
   exact ⟨ret_bool (by have := HT.out; rw [List.take_of_length_le (by omega)] at this; exact this.symm), hbw⟩
end Go.Proofs.Ytdjbfneniohaaaa
