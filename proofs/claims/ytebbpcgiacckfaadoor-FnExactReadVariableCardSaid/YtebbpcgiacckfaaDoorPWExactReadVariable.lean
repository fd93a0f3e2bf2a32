/- The walk of FnExactReadVariable. -/
import Derived.Test.YtebbpcgiacckfaaDoorPHStore
import Derived.Test.YtebbpcgiacckfaaDoorPTV
import Derived.Test.YtebbpcgiacckfaaDoorPR4
import Derived.Deep.RegionHeld3
import Derived.Deep.RegionWith
import Derived.Deep.Cut
import Derived.Deep.CutRange
namespace Go.Proofs.YtebbpcgiacckfaaDoor
set_option linter.unusedVariables false
set_option linter.unusedSimpArgs false
set_option maxRecDepth 100000
open Go.RowKit
def BoxAt (w2 : World) (u0 u1 u2 : Int) (u3 : ByteArray) (u4 u5 c : Int) (p cc : Value) (wx : World) : Prop :=
 ∃ g : Nat, p = .pointer (some ⟨g, 0, none⟩) ∧ cc = .int .i64 c ∧ SixV wx g (.int .i64 u0) (.int .i64 u1) (.int .i64 u2) (.string u3) (.int .i64 u4) (.int .i64 u5) ∧ w2.heap.size ≤ g ∧ g < wx.heap.size ∧ Bel w2 wx
set_option maxHeartbeats 40000000 in
theorem FnExactReadVariable_walk (t0 : TStore) (vs0 : List Value) (t1 : TValue) (vs1 : List Value) (w : World) (hv0 : Dat.HoldVals w (fun _ => True) t0.D vs0) (hv1 : Dat.HoldVals w (fun _ => True) t1.D vs1) (htab : Sp w) :
  Calls Tryd.prog 5 #[.agg vs0.toArray, .agg vs1.toArray] w fun e w' => e = .returned (.bool true) ∧ Bel w w' := by
 have HTab := hide htab
 clear htab
 obtain ⟨x0_0, x0_1, x0_2, x0_3, x0_4, x0_5, x0_6, x0_7, x0_8, x0_9, x0_10, x0_11, x0_12⟩ := t0
 obtain ⟨A0_0_0, c0_0_0, A0_0_1, c0_0_1, A0_0_2, c0_0_2, A0_0_3, c0_0_3, A0_0_6, c0_0_6, A0_0_7, c0_0_7, A0_0_8, c0_0_8, rfl, -⟩ := TStore.vals hv0
 have HV0 := hide hv0
 clear hv0
 obtain ⟨x1_0, x1_1, x1_2, x1_3, x1_4, x1_5⟩ := t1
 obtain ⟨rfl, -⟩ := TValue.vals hv1
 have HV1 := hide hv1
 clear hv1
 obtain ⟨m0, hm0⟩ : ∃ m : Nat, m = Dat.wtL (TStore.mk x0_0 x0_1 x0_2 x0_3 x0_4 x0_5 x0_6 x0_7 x0_8 x0_9 x0_10 x0_11 x0_12).D := ⟨_, rfl⟩
 rcases Int.lt_or_le ((1048576 : Int)) (m0 : Int) with hq0 | hq0
 ·
  have HZ0 := hide (show szL (Dat.wtL (TStore.mk x0_0 x0_1 x0_2 x0_3 x0_4 x0_5 x0_6 x0_7 x0_8 x0_9 x0_10 x0_11 x0_12).D) ((1048576 : Int)) = -1 from szL_no (by omega))
  clear hq0 hm0
  go_enter Tryd.func5, Tryd.ntmps5
  go_wp2_with (fail)
  refine (szStore_any _ _ _ _ _ (Dat.HoldVals.bel bl HV0.out) (by omega) (by omega)).mono ?_
  rintro e w1 ⟨rfl, hb1⟩
  rw [HZ0.out]
  (have hz1 := hb1.sz; obtain ⟨hk1_0, hf1_0, hl1_0, hn1_0⟩ := hb1.lay (w.heap.size); obtain ⟨hk1_1, hf1_1, hl1_1, hn1_1⟩ := hb1.lay (w.heap.size + 1))
  go_wp2_with (fail)
  all_goals
   go_returns
   exact ⟨rfl, bl⟩
 have HZ0 := hide (show szL (Dat.wtL (TStore.mk x0_0 x0_1 x0_2 x0_3 x0_4 x0_5 x0_6 x0_7 x0_8 x0_9 x0_10 x0_11 x0_12).D) ((1048576 : Int)) = (1048576 : Int) - (m0 : Int) from by rw [szL_yes (by omega), hm0])
 have HS0 : Hid (Dat.wtL (TStore.mk x0_0 x0_1 x0_2 x0_3 x0_4 x0_5 x0_6 x0_7 x0_8 x0_9 x0_10 x0_11 x0_12).D ≤ 1048576) := by show _ ≤ _; omega
 have hlo0 : 0 ≤ (1048576 : Int) - (m0 : Int) := by omega
 have hle0 : (1048576 : Int) - (m0 : Int) ≤ 1048576 := by omega
 clear hm0
 obtain ⟨m1, hm1⟩ : ∃ m : Nat, m = Dat.wtL (TValue.mk x1_0 x1_1 x1_2 x1_3 x1_4 x1_5).D := ⟨_, rfl⟩
 rcases Int.lt_or_le ((1048576 : Int) - (m0 : Int)) (m1 : Int) with hq1 | hq1
 ·
  have HZ1 := hide (show szL (Dat.wtL (TValue.mk x1_0 x1_1 x1_2 x1_3 x1_4 x1_5).D) ((1048576 : Int) - (m0 : Int)) = -1 from szL_no (by omega))
  clear hq1 hm1
  go_enter Tryd.func5, Tryd.ntmps5
  go_wp2_with (fail)
  refine (szStore_any _ _ _ _ _ (Dat.HoldVals.bel bl HV0.out) (by omega) (by omega)).mono ?_
  rintro e w1 ⟨rfl, hb1⟩
  rw [HZ0.out]
  (have hz1 := hb1.sz; obtain ⟨hk1_0, hf1_0, hl1_0, hn1_0⟩ := hb1.lay (w.heap.size); obtain ⟨hk1_1, hf1_1, hl1_1, hn1_1⟩ := hb1.lay (w.heap.size + 1))
  go_wp2_with (fail)
  refine (szValT_any _ _ _ _ _ (Dat.HoldVals.bel bl HV1.out) (by omega) (by omega)).mono ?_
  rintro e w2 ⟨rfl, hb2⟩
  rw [HZ1.out]
  (have hz2 := hb2.sz; obtain ⟨hk2_0, hf2_0, hl2_0, hn2_0⟩ := hb2.lay (w.heap.size); obtain ⟨hk2_1, hf2_1, hl2_1, hn2_1⟩ := hb2.lay (w.heap.size + 1))
  go_wp2_with (fail)
  all_goals
   go_returns
   exact ⟨rfl, bl⟩
 have HZ1 := hide (show szL (Dat.wtL (TValue.mk x1_0 x1_1 x1_2 x1_3 x1_4 x1_5).D) ((1048576 : Int) - (m0 : Int)) = (1048576 : Int) - (m0 : Int) - (m1 : Int) from by rw [szL_yes (by omega), hm1])
 have HS1 : Hid (Dat.wtL (TValue.mk x1_0 x1_1 x1_2 x1_3 x1_4 x1_5).D ≤ 1048576) := by show _ ≤ _; omega
 have hlo1 : 0 ≤ (1048576 : Int) - (m0 : Int) - (m1 : Int) := by omega
 have hle1 : (1048576 : Int) - (m0 : Int) - (m1 : Int) ≤ 1048576 := by omega
 clear hm1
 clear hq0 hq1
 go_enter Tryd.func5, Tryd.ntmps5
 go_wp2_with (fail)
 refine (szStore_any _ _ _ _ _ (Dat.HoldVals.bel bl HV0.out) (by omega) (by omega)).mono ?_
 rintro e w1 ⟨rfl, hb1⟩
 rw [HZ0.out]
 (have hz1 := hb1.sz; obtain ⟨hk1_0, hf1_0, hl1_0, hn1_0⟩ := hb1.lay (w.heap.size); obtain ⟨hk1_1, hf1_1, hl1_1, hn1_1⟩ := hb1.lay (w.heap.size + 1))
 go_wp2_with (fail)
 refine (szValT_any _ _ _ _ _ (Dat.HoldVals.bel bl HV1.out) (by omega) (by omega)).mono ?_
 rintro e w2 ⟨rfl, hb2⟩
 rw [HZ1.out]
 (have hz2 := hb2.sz; obtain ⟨hk2_0, hf2_0, hl2_0, hn2_0⟩ := hb2.lay (w.heap.size); obtain ⟨hk2_1, hf2_1, hl2_1, hn2_1⟩ := hb2.lay (w.heap.size + 1))
 go_wp2_with (fail)
 have hbw : Bel w w2 := bl
 have a0_0 : w2.cell? ⟨w.heap.size, 0, none⟩ = some (.slice A0_0_0 x0_0.length c0_0_0) := by rw [hk2_0, hk1_0]; simp
 have a0_1 : w2.cell? ⟨w.heap.size, 1, none⟩ = some (.slice A0_0_1 x0_1.length c0_0_1) := by rw [hk2_0, hk1_0]; simp
 have a0_2 : w2.cell? ⟨w.heap.size, 2, none⟩ = some (.slice A0_0_2 x0_2.length c0_0_2) := by rw [hk2_0, hk1_0]; simp
 have a0_3 : w2.cell? ⟨w.heap.size, 3, none⟩ = some (.slice A0_0_3 x0_3.length c0_0_3) := by rw [hk2_0, hk1_0]; simp
 have a0_4 : w2.cell? ⟨w.heap.size, 4, none⟩ = some (.string x0_4) := by rw [hk2_0, hk1_0]; simp
 have a0_5 : w2.cell? ⟨w.heap.size, 5, none⟩ = some (.int .i64 x0_5) := by rw [hk2_0, hk1_0]; simp
 have a0_6 : w2.cell? ⟨w.heap.size, 6, none⟩ = some (.slice A0_0_6 x0_6.length c0_0_6) := by rw [hk2_0, hk1_0]; simp
 have a0_7 : w2.cell? ⟨w.heap.size, 7, none⟩ = some (.slice A0_0_7 x0_7.length c0_0_7) := by rw [hk2_0, hk1_0]; simp
 have a0_8 : w2.cell? ⟨w.heap.size, 8, none⟩ = some (.slice A0_0_8 x0_8.length c0_0_8) := by rw [hk2_0, hk1_0]; simp
 have a0_9 : w2.cell? ⟨w.heap.size, 9, none⟩ = some (.bool x0_9) := by rw [hk2_0, hk1_0]; simp
 have a0_10 : w2.cell? ⟨w.heap.size, 10, none⟩ = some (.int .i64 x0_10) := by rw [hk2_0, hk1_0]; simp
 have a0_11 : w2.cell? ⟨w.heap.size, 11, none⟩ = some (.int .i64 x0_11) := by rw [hk2_0, hk1_0]; simp
 have a0_12 : w2.cell? ⟨w.heap.size, 12, none⟩ = some (.int .i64 x0_12) := by rw [hk2_0, hk1_0]; simp
 have a1_0 : w2.cell? ⟨w.heap.size + 1, 0, none⟩ = some (.int .i64 x1_0) := by rw [hk2_1, hk1_1]; simp
 have a1_1 : w2.cell? ⟨w.heap.size + 1, 1, none⟩ = some (.int .i64 x1_1) := by rw [hk2_1, hk1_1]; simp
 have a1_2 : w2.cell? ⟨w.heap.size + 1, 2, none⟩ = some (.int .i64 x1_2) := by rw [hk2_1, hk1_1]; simp
 have a1_3 : w2.cell? ⟨w.heap.size + 1, 3, none⟩ = some (.string x1_3) := by rw [hk2_1, hk1_1]; simp
 have a1_4 : w2.cell? ⟨w.heap.size + 1, 4, none⟩ = some (.int .i64 x1_4) := by rw [hk2_1, hk1_1]; simp
 have a1_5 : w2.cell? ⟨w.heap.size + 1, 5, none⟩ = some (.int .i64 x1_5) := by rw [hk2_1, hk1_1]; simp
 have l0 : w.heap.size < w2.heap.size := by omega
 have l1 : w.heap.size + 1 < w2.heap.size := by omega
 have n0 : ¬ w.heap.size = w2.heap.size := by omega
 have n1 : ¬ w.heap.size + 1 = w2.heap.size := by omega
 obtain ⟨⟨u0, u1, u2, u3, u4, u5⟩, uc, hrd⟩ : ∃ (r : VVal) (c : Int), readI (TStore.mk x0_0 x0_1 x0_2 x0_3 x0_4 x0_5 x0_6 x0_7 x0_8 x0_9 x0_10 x0_11 x0_12) (TValue.v (TValue.mk x1_0 x1_1 x1_2 x1_3 x1_4 x1_5)) = (r, c) := ⟨_, _, rfl⟩
 have HRd := hide hrd
 clear hrd hb1 hb2 hz1 hz2 hk1_0 hk1_1 hk2_0 hk2_1 hf1_0 hf1_1 hf2_0 hf2_1 hl1_0 hl1_1 hl2_0 hl2_1 hn1_0 hn1_1 hn2_0 hn2_1
 go_cut [6, 7] from 21 to 28 (fun p cc wx => BoxAt w2 u0 u1 u2 u3 u4 u5 uc p cc wx)
 case first =>
  go_region_with (first
   | (go_at_call 9; refine (toStore_any _ _ _ _ (Dat.HoldVals.bel bl HV0.out) HS0.out).mono ?_; rintro e w3 ⟨vs3, rfl, hv3, hb3⟩; obtain ⟨B3_0, d3_0, B3_1, d3_1, B3_2, d3_2, B3_3, d3_3, B3_6, d3_6, B3_7, d3_7, B3_8, d3_8, rfl, -⟩ := TStore.vals hv3; have HVc3 := hide hv3; clear hv3; have hz3 := hb3.size; have kk3 : Bel w2 w3 := bl; (try have zz3_2 : Z6 w3 w2.heap.size := Z6.on (Z6.new (w := w2.drew)) hb3); (try simp only [World.size_alloc, World.size_drew, World.size_setCell] at hz3); have p3_0 := hb3.box (w.heap.size) (by first | omega | (simp; omega) | (simp; done)); have s3_0 : w.heap.size < w3.heap.size := (by omega); have n3_0 : ¬ w.heap.size = w3.heap.size := (by omega); have p3_1 := hb3.box (w.heap.size + 1) (by first | omega | (simp; omega) | (simp; done)); have s3_1 : w.heap.size + 1 < w3.heap.size := (by omega); have n3_1 : ¬ w.heap.size + 1 = w3.heap.size := (by omega); (try (have r3_w2 := hb3.box (w2.heap.size) (by first | omega | (simp; omega) | (simp; done)); have v3_w2 := hb3.boxf (w2.heap.size) (by first | omega | (simp; omega) | (simp; done)); have y3_w2 : w2.heap.size < w3.heap.size := (by omega))))
   | (go_at_call 14; refine (toValT_any _ _ _ _ (Dat.HoldVals.bel bl HV1.out) HS1.out).mono ?_; rintro e w4 ⟨vs4, rfl, hv4, hb4⟩; obtain ⟨rfl, -⟩ := TValue.vals hv4; have HVc4 := hide hv4; clear hv4; have HVd3 := hide (Dat.HoldVals.bel (show Bel w3 w4 from bl) HVc3.out); have hz4 := hb4.size; have kk4 : Bel w2 w4 := bl; (try have zz4_3 : Z6 w4 w3.heap.size := Z6.on (Z6.new (w := w3)) hb4); (try have zz4_2 : Z6 w4 w2.heap.size := zz3_2.on hb4); (try simp only [World.size_alloc, World.size_drew, World.size_setCell] at hz4); have p4_0 := hb4.box (w.heap.size) (by first | omega | (simp; omega) | (simp; done)); have s4_0 : w.heap.size < w4.heap.size := (by omega); have n4_0 : ¬ w.heap.size = w4.heap.size := (by omega); have p4_1 := hb4.box (w.heap.size + 1) (by first | omega | (simp; omega) | (simp; done)); have s4_1 : w.heap.size + 1 < w4.heap.size := (by omega); have n4_1 : ¬ w.heap.size + 1 = w4.heap.size := (by omega); (try (have r4_w3 := hb4.box (w3.heap.size) (by first | omega | (simp; omega) | (simp; done)); have v4_w3 := hb4.boxf (w3.heap.size) (by first | omega | (simp; omega) | (simp; done)); have y4_w3 : w3.heap.size < w4.heap.size := (by omega))); (try (have r4_w2 := hb4.box (w2.heap.size) (by first | omega | (simp; omega) | (simp; done)); have v4_w2 := hb4.boxf (w2.heap.size) (by first | omega | (simp; omega) | (simp; done)); have y4_w2 : w2.heap.size < w4.heap.size := (by omega))))
   | (go_at_call 16; refine (specReadVariable_law (TStore.mk x0_0 x0_1 x0_2 x0_3 x0_4 x0_5 x0_6 x0_7 x0_8 x0_9 x0_10 x0_11 x0_12) (TValue.mk x1_0 x1_1 x1_2 x1_3 x1_4 x1_5) _ (HTab.out.on bl) _ _ (Dat.HoldVals.bel (show Bel w4 _ from bl) HVd3.out) HS0.out _ _ (Dat.HoldVals.bel (show Bel w4 _ from bl) HVc4.out) HS1.out).mono ?_; rintro e w5 ⟨rfl, hb5⟩; rw [HRd.out]; simp only [VVal.val]; have hz5 := hb5.size; have kk5 : Bel w2 w5 := bl; (try have zz5_4 : Z6 w5 w4.heap.size := Z6.on (Z6.new (w := w4)) hb5); (try have zz5_3 : Z6 w5 w3.heap.size := zz4_3.on hb5); (try have zz5_2 : Z6 w5 w2.heap.size := zz4_2.on hb5); (try simp only [World.size_alloc, World.size_drew, World.size_setCell] at hz5); have p5_0 := hb5.box (w.heap.size) (by first | omega | (simp; omega) | (simp; done)); have s5_0 : w.heap.size < w5.heap.size := (by omega); have n5_0 : ¬ w.heap.size = w5.heap.size := (by omega); have p5_1 := hb5.box (w.heap.size + 1) (by first | omega | (simp; omega) | (simp; done)); have s5_1 : w.heap.size + 1 < w5.heap.size := (by omega); have n5_1 : ¬ w.heap.size + 1 = w5.heap.size := (by omega); (try (have r5_w4 := hb5.box (w4.heap.size) (by first | omega | (simp; omega) | (simp; done)); have v5_w4 := hb5.boxf (w4.heap.size) (by first | omega | (simp; omega) | (simp; done)); have y5_w4 : w4.heap.size < w5.heap.size := (by omega))); (try (have r5_w3 := hb5.box (w3.heap.size) (by first | omega | (simp; omega) | (simp; done)); have v5_w3 := hb5.boxf (w3.heap.size) (by first | omega | (simp; omega) | (simp; done)); have y5_w3 : w3.heap.size < w5.heap.size := (by omega))); (try (have r5_w2 := hb5.box (w2.heap.size) (by first | omega | (simp; omega) | (simp; done)); have v5_w2 := hb5.boxf (w2.heap.size) (by first | omega | (simp; omega) | (simp; done)); have y5_w2 : w2.heap.size < w5.heap.size := (by omega)))))
  all_goals (try go_wp2_with (fail))
  all_goals go_meet
  all_goals
   first
    | exact ⟨_, rfl, rfl, zz5_4.put _ _ _ _ _ _, (by omega), (by simp; omega), Bel.put6 kk5 (by omega) _ _ _ _ _ _⟩
    | exact ⟨_, rfl, rfl, zz5_3.put _ _ _ _ _ _, (by omega), (by simp; omega), Bel.put6 kk5 (by omega) _ _ _ _ _ _⟩
    | exact ⟨_, rfl, rfl, zz5_2.put _ _ _ _ _ _, (by omega), (by simp; omega), Bel.put6 kk5 (by omega) _ _ _ _ _ _⟩
    | exact ⟨_, rfl, rfl, SixV.new (Bel.refl _), (by omega), (by simp), kk5.alloc _⟩
 case rest =>
  obtain ⟨g, rfl, rfl, S, g1, g2, hbc⟩ := hcut
  have hbw3 := hbw.trans hbc
  have q0 := hbc.box w.heap.size (by omega)
  replace a0_0 := (q0 0).trans a0_0
  replace a0_1 := (q0 1).trans a0_1
  replace a0_2 := (q0 2).trans a0_2
  replace a0_3 := (q0 3).trans a0_3
  replace a0_4 := (q0 4).trans a0_4
  replace a0_5 := (q0 5).trans a0_5
  replace a0_6 := (q0 6).trans a0_6
  replace a0_7 := (q0 7).trans a0_7
  replace a0_8 := (q0 8).trans a0_8
  replace a0_9 := (q0 9).trans a0_9
  replace a0_10 := (q0 10).trans a0_10
  replace a0_11 := (q0 11).trans a0_11
  replace a0_12 := (q0 12).trans a0_12
  have q1 := hbc.box (w.heap.size + 1) (by omega)
  replace a1_0 := (q1 0).trans a1_0
  replace a1_1 := (q1 1).trans a1_1
  replace a1_2 := (q1 2).trans a1_2
  replace a1_3 := (q1 3).trans a1_3
  replace a1_4 := (q1 4).trans a1_4
  replace a1_5 := (q1 5).trans a1_5
  have l0c : w.heap.size < wc.heap.size := Nat.lt_of_lt_of_le l0 hbc.size
  have l1c : w.heap.size + 1 < wc.heap.size := Nat.lt_of_lt_of_le l1 hbc.size
  have hg0 : w.heap.size + 1 < g := by omega
  clear q0 q1 l0 l1 n0 n1 hbc hbw
  have hbw := hbw3
  clear hbw3
  have n0 : ¬ w.heap.size = wc.heap.size := by omega
  have n1 : ¬ w.heap.size + 1 = wc.heap.size := by omega
  have ng : ¬ g = wc.heap.size := by omega
  have S' := hide S
  clear S g1
  go_wp2_with (fail)
  refine (toStore_any _ _ _ _ (Dat.HoldVals.bel bl HV0.out) HS0.out).mono ?_
  rintro e wx ⟨vsx, rfl, hvx, hbx⟩; obtain ⟨Bx_0, dx_0, Bx_1, dx_1, Bx_2, dx_2, Bx_3, dx_3, Bx_6, dx_6, Bx_7, dx_7, Bx_8, dx_8, rfl, -⟩ := TStore.vals hvx; have HVx := hide hvx; clear hvx
  have hzx := hbx.size
  have px_0 := hbx.box (w.heap.size) (by omega); have sx_0 : w.heap.size < wx.heap.size := (by omega); have nx_0 : ¬ w.heap.size = wx.heap.size := (by omega)
  have px_1 := hbx.box (w.heap.size + 1) (by omega); have sx_1 : w.heap.size + 1 < wx.heap.size := (by omega); have nx_1 : ¬ w.heap.size + 1 = wx.heap.size := (by omega)
  have px_2 := hbx.box (g) (by omega); have sx_2 : g < wx.heap.size := (by omega); have nx_2 : ¬ g = wx.heap.size := (by omega)
  replace a0_0 := (px_0 0).trans a0_0
  replace a0_1 := (px_0 1).trans a0_1
  replace a0_2 := (px_0 2).trans a0_2
  replace a0_3 := (px_0 3).trans a0_3
  replace a0_4 := (px_0 4).trans a0_4
  replace a0_5 := (px_0 5).trans a0_5
  replace a0_6 := (px_0 6).trans a0_6
  replace a0_7 := (px_0 7).trans a0_7
  replace a0_8 := (px_0 8).trans a0_8
  replace a0_9 := (px_0 9).trans a0_9
  replace a0_10 := (px_0 10).trans a0_10
  replace a0_11 := (px_0 11).trans a0_11
  replace a0_12 := (px_0 12).trans a0_12
  replace a1_0 := (px_1 0).trans a1_0
  replace a1_1 := (px_1 1).trans a1_1
  replace a1_2 := (px_1 2).trans a1_2
  replace a1_3 := (px_1 3).trans a1_3
  replace a1_4 := (px_1 4).trans a1_4
  replace a1_5 := (px_1 5).trans a1_5
  have S2 := hide (show SixV wx g _ _ _ _ _ _ from by obtain ⟨f0, f1, f2, f3, f4, f5⟩ := S'.out; exact ⟨(px_2 0).trans f0, (px_2 1).trans f1, (px_2 2).trans f2, (px_2 3).trans f3, (px_2 4).trans f4, (px_2 5).trans f5⟩)
  clear S' px_0 px_1 px_2 n0 n1 ng l0c l1c
  have hbwx : Bel w wx := hbw.trans hbx
  go_upto_region 10 with (fail)
  obtain ⟨w2, hw2⟩ : ∃ x : World, x = wx.alloc (.cells #[.slice Bx_0 x0_0.length dx_0, .slice Bx_1 x0_1.length dx_1, .slice Bx_2 x0_2.length dx_2, .slice Bx_3 x0_3.length dx_3, .string x0_4, .int .i64 x0_5, .slice Bx_6 x0_6.length dx_6, .slice Bx_7 x0_7.length dx_7, .slice Bx_8 x0_8.length dx_8, .bool x0_9, .int .i64 x0_10, .int .i64 x0_11, .int .i64 x0_12] 36) := ⟨_, rfl⟩
  rw [← hw2]
  have hb2 : Bel wx w2 := by rw [hw2]; exact Bel.alloc (Bel.refl _) _
  have hbw2 : Bel w w2 := hbwx.trans hb2
  have q0 := hb2.box (w.heap.size) (by omega)
  replace a0_0 := (q0 0).trans a0_0
  replace a0_1 := (q0 1).trans a0_1
  replace a0_2 := (q0 2).trans a0_2
  replace a0_3 := (q0 3).trans a0_3
  replace a0_4 := (q0 4).trans a0_4
  replace a0_5 := (q0 5).trans a0_5
  replace a0_6 := (q0 6).trans a0_6
  replace a0_7 := (q0 7).trans a0_7
  replace a0_8 := (q0 8).trans a0_8
  replace a0_9 := (q0 9).trans a0_9
  replace a0_10 := (q0 10).trans a0_10
  replace a0_11 := (q0 11).trans a0_11
  replace a0_12 := (q0 12).trans a0_12
  have q1 := hb2.box (w.heap.size + 1) (by omega)
  replace a1_0 := (q1 0).trans a1_0
  replace a1_1 := (q1 1).trans a1_1
  replace a1_2 := (q1 2).trans a1_2
  replace a1_3 := (q1 3).trans a1_3
  replace a1_4 := (q1 4).trans a1_4
  replace a1_5 := (q1 5).trans a1_5
  have b_0 : w2.cell? ⟨wx.heap.size, 0, none⟩ = some (.slice Bx_0 x0_0.length dx_0) := by rw [hw2]; simp
  have b_1 : w2.cell? ⟨wx.heap.size, 1, none⟩ = some (.slice Bx_1 x0_1.length dx_1) := by rw [hw2]; simp
  have b_2 : w2.cell? ⟨wx.heap.size, 2, none⟩ = some (.slice Bx_2 x0_2.length dx_2) := by rw [hw2]; simp
  have b_3 : w2.cell? ⟨wx.heap.size, 3, none⟩ = some (.slice Bx_3 x0_3.length dx_3) := by rw [hw2]; simp
  have b_4 : w2.cell? ⟨wx.heap.size, 4, none⟩ = some (.string x0_4) := by rw [hw2]; simp
  have b_5 : w2.cell? ⟨wx.heap.size, 5, none⟩ = some (.int .i64 x0_5) := by rw [hw2]; simp
  have b_6 : w2.cell? ⟨wx.heap.size, 6, none⟩ = some (.slice Bx_6 x0_6.length dx_6) := by rw [hw2]; simp
  have b_7 : w2.cell? ⟨wx.heap.size, 7, none⟩ = some (.slice Bx_7 x0_7.length dx_7) := by rw [hw2]; simp
  have b_8 : w2.cell? ⟨wx.heap.size, 8, none⟩ = some (.slice Bx_8 x0_8.length dx_8) := by rw [hw2]; simp
  have b_9 : w2.cell? ⟨wx.heap.size, 9, none⟩ = some (.bool x0_9) := by rw [hw2]; simp
  have b_10 : w2.cell? ⟨wx.heap.size, 10, none⟩ = some (.int .i64 x0_10) := by rw [hw2]; simp
  have b_11 : w2.cell? ⟨wx.heap.size, 11, none⟩ = some (.int .i64 x0_11) := by rw [hw2]; simp
  have b_12 : w2.cell? ⟨wx.heap.size, 12, none⟩ = some (.int .i64 x0_12) := by rw [hw2]; simp
  have qg := hb2.box g (by omega)
  have S3 := hide (show SixV w2 g _ _ _ _ _ _ from by obtain ⟨f0, f1, f2, f3, f4, f5⟩ := S2.out; exact ⟨(qg 0).trans f0, (qg 1).trans f1, (qg 2).trans f2, (qg 3).trans f3, (qg 4).trans f4, (qg 5).trans f5⟩)
  have hzw : w2.heap.size = wx.heap.size + 1 := by rw [hw2]; simp
  have HVy := hide (Dat.HoldVals.bel hb2 HVx.out)
  clear hw2 S2 q0 q1 qg hbw hbwx HVx hb2 hbx
  have l0 : w.heap.size < w2.heap.size := by omega
  have n0 : ¬ w.heap.size = w2.heap.size := by omega
  have l1 : w.heap.size + 1 < w2.heap.size := by omega
  have n1 : ¬ w.heap.size + 1 = w2.heap.size := by omega
  have lg : g < w2.heap.size := by omega
  have ng : ¬ g = w2.heap.size := by omega
  have lx : wx.heap.size < w2.heap.size := by omega
  have nx : ¬ wx.heap.size = w2.heap.size := by omega
  clear hzw
  go_cut [9, 10] from 31 to 37 (fun p cc wx => BoxAt w2 u0 u1 u2 u3 u4 u5 uc p cc wx)
  case first =>
   go_region_with (first
    | (go_at_call 14; refine (toValT_any _ _ _ _ (Dat.HoldVals.bel bl HV1.out) HS1.out).mono ?_; rintro e w4 ⟨vs4, rfl, hv4, hb4⟩; obtain ⟨rfl, -⟩ := TValue.vals hv4; have HVc4 := hide hv4; clear hv4; have hz4 := hb4.size; have kk4 : Bel w2 w4 := bl; (try have zz4_2 : Z6 w4 w2.heap.size := Z6.on (Z6.new (w := w2.drew)) hb4); (try simp only [World.size_alloc, World.size_drew, World.size_setCell] at hz4); have p4_0 := hb4.box (w.heap.size) (by first | omega | (simp; omega) | (simp; done)); have s4_0 : w.heap.size < w4.heap.size := (by omega); have n4_0 : ¬ w.heap.size = w4.heap.size := (by omega); have p4_1 := hb4.box (w.heap.size + 1) (by first | omega | (simp; omega) | (simp; done)); have s4_1 : w.heap.size + 1 < w4.heap.size := (by omega); have n4_1 : ¬ w.heap.size + 1 = w4.heap.size := (by omega); have p4_2 := hb4.box (wx.heap.size) (by first | omega | (simp; omega) | (simp; done)); have s4_2 : wx.heap.size < w4.heap.size := (by omega); have n4_2 : ¬ wx.heap.size = w4.heap.size := (by omega); have p4_3 := hb4.box (g) (by first | omega | (simp; omega) | (simp; done)); have s4_3 : g < w4.heap.size := (by omega); have n4_3 : ¬ g = w4.heap.size := (by omega); (try (have r4_w2 := hb4.box (w2.heap.size) (by first | omega | (simp; omega) | (simp; done)); have v4_w2 := hb4.boxf (w2.heap.size) (by first | omega | (simp; omega) | (simp; done)); have y4_w2 : w2.heap.size < w4.heap.size := (by omega))))
    | (go_at_call 17; refine (implReadVariable_law (TStore.mk x0_0 x0_1 x0_2 x0_3 x0_4 x0_5 x0_6 x0_7 x0_8 x0_9 x0_10 x0_11 x0_12) (TValue.mk x1_0 x1_1 x1_2 x1_3 x1_4 x1_5) _ (HTab.out.on bl) _ _ (Dat.HoldVals.bel bl HVy.out) HS0.out _ _ (Dat.HoldVals.bel bl HVc4.out) HS1.out).mono ?_; rintro e w5 ⟨rfl, hb5⟩; rw [HRd.out]; simp only [VVal.val]; have hz5 := hb5.size; have kk5 : Bel w2 w5 := bl; (try have zz5_4 : Z6 w5 w4.heap.size := Z6.on (Z6.new (w := w4)) hb5); (try have zz5_2 : Z6 w5 w2.heap.size := zz4_2.on hb5); (try simp only [World.size_alloc, World.size_drew, World.size_setCell] at hz5); have p5_0 := hb5.box (w.heap.size) (by first | omega | (simp; omega) | (simp; done)); have s5_0 : w.heap.size < w5.heap.size := (by omega); have n5_0 : ¬ w.heap.size = w5.heap.size := (by omega); have p5_1 := hb5.box (w.heap.size + 1) (by first | omega | (simp; omega) | (simp; done)); have s5_1 : w.heap.size + 1 < w5.heap.size := (by omega); have n5_1 : ¬ w.heap.size + 1 = w5.heap.size := (by omega); have p5_2 := hb5.box (wx.heap.size) (by first | omega | (simp; omega) | (simp; done)); have s5_2 : wx.heap.size < w5.heap.size := (by omega); have n5_2 : ¬ wx.heap.size = w5.heap.size := (by omega); have p5_3 := hb5.box (g) (by first | omega | (simp; omega) | (simp; done)); have s5_3 : g < w5.heap.size := (by omega); have n5_3 : ¬ g = w5.heap.size := (by omega); (try (have r5_w4 := hb5.box (w4.heap.size) (by first | omega | (simp; omega) | (simp; done)); have v5_w4 := hb5.boxf (w4.heap.size) (by first | omega | (simp; omega) | (simp; done)); have y5_w4 : w4.heap.size < w5.heap.size := (by omega))); (try (have r5_w2 := hb5.box (w2.heap.size) (by first | omega | (simp; omega) | (simp; done)); have v5_w2 := hb5.boxf (w2.heap.size) (by first | omega | (simp; omega) | (simp; done)); have y5_w2 : w2.heap.size < w5.heap.size := (by omega)))))
   all_goals (try go_wp2_with (fail))
   all_goals go_meet
   all_goals
    first
     | exact ⟨_, rfl, rfl, zz5_4.put _ _ _ _ _ _, (by omega), (by simp; omega), Bel.put6 kk5 (by omega) _ _ _ _ _ _⟩
     | exact ⟨_, rfl, rfl, zz5_2.put _ _ _ _ _ _, (by omega), (by simp; omega), Bel.put6 kk5 (by omega) _ _ _ _ _ _⟩
     | exact ⟨_, rfl, rfl, SixV.new (Bel.refl _), (by omega), (by simp), kk5.alloc _⟩
  case rest =>
   obtain ⟨g', rfl, rfl, ⟨e0, e1, e2, e3, e4, e5⟩, g1', g2', hbc⟩ := hcut
   have q2 := hbc.box g (by omega)
   obtain ⟨f0, f1, f2, f3, f4, f5⟩ := S3.out
   replace f0 := (q2 0).trans f0
   replace f1 := (q2 1).trans f1
   replace f2 := (q2 2).trans f2
   replace f3 := (q2 3).trans f3
   replace f4 := (q2 4).trans f4
   replace f5 := (q2 5).trans f5
   have q0 := hbc.box (w.heap.size) (by omega)
   replace a0_0 := (q0 0).trans a0_0
   replace a0_1 := (q0 1).trans a0_1
   replace a0_2 := (q0 2).trans a0_2
   replace a0_3 := (q0 3).trans a0_3
   replace a0_4 := (q0 4).trans a0_4
   replace a0_5 := (q0 5).trans a0_5
   replace a0_6 := (q0 6).trans a0_6
   replace a0_7 := (q0 7).trans a0_7
   replace a0_8 := (q0 8).trans a0_8
   replace a0_9 := (q0 9).trans a0_9
   replace a0_10 := (q0 10).trans a0_10
   replace a0_11 := (q0 11).trans a0_11
   replace a0_12 := (q0 12).trans a0_12
   have qx := hbc.box wx.heap.size (by omega)
   replace b_0 := (qx 0).trans b_0
   replace b_1 := (qx 1).trans b_1
   replace b_2 := (qx 2).trans b_2
   replace b_3 := (qx 3).trans b_3
   replace b_4 := (qx 4).trans b_4
   replace b_5 := (qx 5).trans b_5
   replace b_6 := (qx 6).trans b_6
   replace b_7 := (qx 7).trans b_7
   replace b_8 := (qx 8).trans b_8
   replace b_9 := (qx 9).trans b_9
   replace b_10 := (qx 10).trans b_10
   replace b_11 := (qx 11).trans b_11
   replace b_12 := (qx 12).trans b_12
   have hbf := hbw2.trans hbc
   have HVz := hide (Dat.HoldVals.bel hbc HVy.out)
   have l0c : w.heap.size < wc.heap.size := Nat.lt_of_lt_of_le l0 hbc.size
   have lxc : wx.heap.size < wc.heap.size := Nat.lt_of_lt_of_le lx hbc.size
   clear q2 q0 qx hbc hbw2 HVy l0 l1 lg lx n0 n1 ng nx S3 a1_0 a1_1 a1_2 a1_3 a1_4 a1_5
   go_wp2_with (go_at_call 18; refine (eqVal_same u0 u1 u2 u3 u4 u5 _).mono ?_; rintro e w9 ⟨rfl, hb9⟩; (have hz9 := hb9.sz; obtain ⟨hk9_0, hf9_0, hl9_0, hn9_0⟩ := hb9.lay (w.heap.size); obtain ⟨hk9_1, hf9_1, hl9_1, hn9_1⟩ := hb9.lay (wx.heap.size)))
   go_region_held3 (fun w' => w'.cell? ⟨w.heap.size, 0, none⟩ = some (.slice A0_0_0 x0_0.length c0_0_0) ∧ w'.cell? ⟨w.heap.size, 1, none⟩ = some (.slice A0_0_1 x0_1.length c0_0_1) ∧ w'.cell? ⟨w.heap.size, 2, none⟩ = some (.slice A0_0_2 x0_2.length c0_0_2) ∧ w'.cell? ⟨w.heap.size, 3, none⟩ = some (.slice A0_0_3 x0_3.length c0_0_3) ∧ w'.cell? ⟨w.heap.size, 4, none⟩ = some (.string x0_4) ∧ w'.cell? ⟨w.heap.size, 5, none⟩ = some (.int .i64 x0_5) ∧ w'.cell? ⟨w.heap.size, 6, none⟩ = some (.slice A0_0_6 x0_6.length c0_0_6) ∧ w'.cell? ⟨w.heap.size, 7, none⟩ = some (.slice A0_0_7 x0_7.length c0_0_7) ∧ w'.cell? ⟨w.heap.size, 8, none⟩ = some (.slice A0_0_8 x0_8.length c0_0_8) ∧ w'.cell? ⟨w.heap.size, 9, none⟩ = some (.bool x0_9) ∧ w'.cell? ⟨w.heap.size, 10, none⟩ = some (.int .i64 x0_10) ∧ w'.cell? ⟨w.heap.size, 11, none⟩ = some (.int .i64 x0_11) ∧ w'.cell? ⟨w.heap.size, 12, none⟩ = some (.int .i64 x0_12) ∧ w'.cell? ⟨wx.heap.size, 0, none⟩ = some (.slice Bx_0 x0_0.length dx_0) ∧ w'.cell? ⟨wx.heap.size, 1, none⟩ = some (.slice Bx_1 x0_1.length dx_1) ∧ w'.cell? ⟨wx.heap.size, 2, none⟩ = some (.slice Bx_2 x0_2.length dx_2) ∧ w'.cell? ⟨wx.heap.size, 3, none⟩ = some (.slice Bx_3 x0_3.length dx_3) ∧ w'.cell? ⟨wx.heap.size, 4, none⟩ = some (.string x0_4) ∧ w'.cell? ⟨wx.heap.size, 5, none⟩ = some (.int .i64 x0_5) ∧ w'.cell? ⟨wx.heap.size, 6, none⟩ = some (.slice Bx_6 x0_6.length dx_6) ∧ w'.cell? ⟨wx.heap.size, 7, none⟩ = some (.slice Bx_7 x0_7.length dx_7) ∧ w'.cell? ⟨wx.heap.size, 8, none⟩ = some (.slice Bx_8 x0_8.length dx_8) ∧ w'.cell? ⟨wx.heap.size, 9, none⟩ = some (.bool x0_9) ∧ w'.cell? ⟨wx.heap.size, 10, none⟩ = some (.int .i64 x0_10) ∧ w'.cell? ⟨wx.heap.size, 11, none⟩ = some (.int .i64 x0_11) ∧ w'.cell? ⟨wx.heap.size, 12, none⟩ = some (.int .i64 x0_12)) (first | exact ⟨(Bel.box (W := wc) bl (w.heap.size) l0c 0).trans a0_0, (Bel.box (W := wc) bl (w.heap.size) l0c 1).trans a0_1, (Bel.box (W := wc) bl (w.heap.size) l0c 2).trans a0_2, (Bel.box (W := wc) bl (w.heap.size) l0c 3).trans a0_3, (Bel.box (W := wc) bl (w.heap.size) l0c 4).trans a0_4, (Bel.box (W := wc) bl (w.heap.size) l0c 5).trans a0_5, (Bel.box (W := wc) bl (w.heap.size) l0c 6).trans a0_6, (Bel.box (W := wc) bl (w.heap.size) l0c 7).trans a0_7, (Bel.box (W := wc) bl (w.heap.size) l0c 8).trans a0_8, (Bel.box (W := wc) bl (w.heap.size) l0c 9).trans a0_9, (Bel.box (W := wc) bl (w.heap.size) l0c 10).trans a0_10, (Bel.box (W := wc) bl (w.heap.size) l0c 11).trans a0_11, (Bel.box (W := wc) bl (w.heap.size) l0c 12).trans a0_12, (Bel.box (W := wc) bl (wx.heap.size) lxc 0).trans b_0, (Bel.box (W := wc) bl (wx.heap.size) lxc 1).trans b_1, (Bel.box (W := wc) bl (wx.heap.size) lxc 2).trans b_2, (Bel.box (W := wc) bl (wx.heap.size) lxc 3).trans b_3, (Bel.box (W := wc) bl (wx.heap.size) lxc 4).trans b_4, (Bel.box (W := wc) bl (wx.heap.size) lxc 5).trans b_5, (Bel.box (W := wc) bl (wx.heap.size) lxc 6).trans b_6, (Bel.box (W := wc) bl (wx.heap.size) lxc 7).trans b_7, (Bel.box (W := wc) bl (wx.heap.size) lxc 8).trans b_8, (Bel.box (W := wc) bl (wx.heap.size) lxc 9).trans b_9, (Bel.box (W := wc) bl (wx.heap.size) lxc 10).trans b_10, (Bel.box (W := wc) bl (wx.heap.size) lxc 11).trans b_11, (Bel.box (W := wc) bl (wx.heap.size) lxc 12).trans b_12⟩) (first | (go_at_call 9; refine (toStore_any _ _ _ _ (Dat.HoldVals.bel bl HV0.out) HS0.out).mono ?_; rintro e wd ⟨vsd, rfl, hvd, hbd⟩; obtain ⟨Bd_0, dd_0, Bd_1, dd_1, Bd_2, dd_2, Bd_3, dd_3, Bd_6, dd_6, Bd_7, dd_7, Bd_8, dd_8, rfl, -⟩ := TStore.vals hvd; have HVd := hide hvd; clear hvd; (have hzd := hbd.sz; obtain ⟨hkd_0, hfd_0, hld_0, hnd_0⟩ := hbd.lay (w.heap.size); obtain ⟨hkd_1, hfd_1, hld_1, hnd_1⟩ := hbd.lay (wx.heap.size))) | (go_at_call 11; refine (eqStore_any _ _ _ _ _ _ (Dat.HoldVals.bel bl HVz.out) (Dat.HoldVals.bel bl HVd.out)).mono ?_; rintro e we ⟨rfl, hbe⟩; (have hze := hbe.sz; obtain ⟨hke_0, hfe_0, hle_0, hne_0⟩ := hbe.lay (w.heap.size); obtain ⟨hke_1, hfe_1, hle_1, hne_1⟩ := hbe.lay (wx.heap.size))))
   go_wp2_with (fail)
   all_goals
    go_returns
    exact ⟨rfl, bl⟩
end Go.Proofs.YtebbpcgiacckfaaDoor
