/- The walk of FnExactSizeOfValue. -/
import Derived.Test.YteihfioaahemkaaGreatDoorPHStore
import Derived.Test.YteihfioaahemkaaGreatDoorPTV
import Derived.Test.YteihfioaahemkaaGreatDoorPZ0
import Derived.Deep.RegionHeld3
namespace Go.Proofs.YteihfioaahemkaaGreatDoor
set_option linter.unusedVariables false
set_option linter.unusedSimpArgs false
set_option maxRecDepth 100000
open Go.RowKit
set_option maxHeartbeats 20000000 in
theorem FnExactSizeOfValue_walk (t0 : TStore) (vs0 : List Value) (t1 : TValue) (vs1 : List Value) (w : World) (hv0 : Dat.HoldVals w (fun _ => True) t0.D vs0) (hv1 : Dat.HoldVals w (fun _ => True) t1.D vs1) (htab : Tabs w) :
  Calls Tryz.prog 3 #[.agg vs0.toArray, .agg vs1.toArray] w fun e w' => e = .returned (.bool true) ∧ Bel w w' := by
 have HTab := hide htab
 clear htab
 obtain ⟨x0_0, x0_1, x0_2, x0_3, x0_4, x0_5, x0_6, x0_7, x0_8, x0_9, x0_10, x0_11, x0_12⟩ := t0
 obtain ⟨A0_0_0, c0_0_0, A0_0_1, c0_0_1, A0_0_2, c0_0_2, A0_0_3, c0_0_3, A0_0_6, c0_0_6, A0_0_7, c0_0_7, A0_0_8, c0_0_8, rfl, -⟩ := TStore.vals hv0
 have HV0 := hide hv0
 clear hv0
 obtain ⟨x1_0, x1_1, x1_2, x1_3, x1_4, x1_5⟩ := t1
 obtain ⟨rfl, -⟩ := TValue.vals hv1
 have HV1 := hide hv1
 clear hv1
 obtain ⟨m0, hm0⟩ : ∃ m : Nat, m = Dat.wtL (TStore.mk x0_0 x0_1 x0_2 x0_3 x0_4 x0_5 x0_6 x0_7 x0_8 x0_9 x0_10 x0_11 x0_12).D := ⟨_, rfl⟩
 rcases Int.lt_or_le ((1048576 : Int)) (m0 : Int) with hq0 | hq0
 ·
  have HZ0 := hide (show szL (Dat.wtL (TStore.mk x0_0 x0_1 x0_2 x0_3 x0_4 x0_5 x0_6 x0_7 x0_8 x0_9 x0_10 x0_11 x0_12).D) ((1048576 : Int)) = -1 from szL_no (by omega))
  clear hq0 hm0
  go_enter Tryz.func3, Tryz.ntmps3
  go_wp2_with (fail)
  refine (szStore_any _ _ _ _ _ (Dat.HoldVals.bel bl HV0.out) (by omega) (by omega)).mono ?_
  rintro e w1 ⟨rfl, hb1⟩
  rw [HZ0.out]
  (have hz1 := hb1.sz; obtain ⟨hk1_0, hf1_0, hl1_0, hn1_0⟩ := hb1.lay (w.heap.size); obtain ⟨hk1_1, hf1_1, hl1_1, hn1_1⟩ := hb1.lay (w.heap.size + 1))
  go_wp2_with (fail)
  all_goals
   go_returns
   exact ⟨rfl, bl⟩
 have HZ0 := hide (show szL (Dat.wtL (TStore.mk x0_0 x0_1 x0_2 x0_3 x0_4 x0_5 x0_6 x0_7 x0_8 x0_9 x0_10 x0_11 x0_12).D) ((1048576 : Int)) = (1048576 : Int) - (m0 : Int) from by rw [szL_yes (by omega), hm0])
 have HS0 : Hid (Dat.wtL (TStore.mk x0_0 x0_1 x0_2 x0_3 x0_4 x0_5 x0_6 x0_7 x0_8 x0_9 x0_10 x0_11 x0_12).D ≤ 1048576) := by show _ ≤ _; omega
 have hlo0 : 0 ≤ (1048576 : Int) - (m0 : Int) := by omega
 have hle0 : (1048576 : Int) - (m0 : Int) ≤ 1048576 := by omega
 clear hm0
 obtain ⟨m1, hm1⟩ : ∃ m : Nat, m = Dat.wtL (TValue.mk x1_0 x1_1 x1_2 x1_3 x1_4 x1_5).D := ⟨_, rfl⟩
 rcases Int.lt_or_le ((1048576 : Int) - (m0 : Int)) (m1 : Int) with hq1 | hq1
 ·
  have HZ1 := hide (show szL (Dat.wtL (TValue.mk x1_0 x1_1 x1_2 x1_3 x1_4 x1_5).D) ((1048576 : Int) - (m0 : Int)) = -1 from szL_no (by omega))
  clear hq1 hm1
  go_enter Tryz.func3, Tryz.ntmps3
  go_wp2_with (fail)
  refine (szStore_any _ _ _ _ _ (Dat.HoldVals.bel bl HV0.out) (by omega) (by omega)).mono ?_
  rintro e w1 ⟨rfl, hb1⟩
  rw [HZ0.out]
  (have hz1 := hb1.sz; obtain ⟨hk1_0, hf1_0, hl1_0, hn1_0⟩ := hb1.lay (w.heap.size); obtain ⟨hk1_1, hf1_1, hl1_1, hn1_1⟩ := hb1.lay (w.heap.size + 1))
  go_wp2_with (fail)
  refine (szValT_any _ _ _ _ _ (Dat.HoldVals.bel bl HV1.out) (by omega) (by omega)).mono ?_
  rintro e w2 ⟨rfl, hb2⟩
  rw [HZ1.out]
  (have hz2 := hb2.sz; obtain ⟨hk2_0, hf2_0, hl2_0, hn2_0⟩ := hb2.lay (w.heap.size); obtain ⟨hk2_1, hf2_1, hl2_1, hn2_1⟩ := hb2.lay (w.heap.size + 1))
  go_wp2_with (fail)
  all_goals
   go_returns
   exact ⟨rfl, bl⟩
 have HZ1 := hide (show szL (Dat.wtL (TValue.mk x1_0 x1_1 x1_2 x1_3 x1_4 x1_5).D) ((1048576 : Int) - (m0 : Int)) = (1048576 : Int) - (m0 : Int) - (m1 : Int) from by rw [szL_yes (by omega), hm1])
 have HS1 : Hid (Dat.wtL (TValue.mk x1_0 x1_1 x1_2 x1_3 x1_4 x1_5).D ≤ 1048576) := by show _ ≤ _; omega
 have hlo1 : 0 ≤ (1048576 : Int) - (m0 : Int) - (m1 : Int) := by omega
 have hle1 : (1048576 : Int) - (m0 : Int) - (m1 : Int) ≤ 1048576 := by omega
 clear hm1
 clear hq0 hq1
 go_enter Tryz.func3, Tryz.ntmps3
 go_wp2_with (fail)
 refine (szStore_any _ _ _ _ _ (Dat.HoldVals.bel bl HV0.out) (by omega) (by omega)).mono ?_
 rintro e w1 ⟨rfl, hb1⟩
 rw [HZ0.out]
 (have hz1 := hb1.sz; obtain ⟨hk1_0, hf1_0, hl1_0, hn1_0⟩ := hb1.lay (w.heap.size); obtain ⟨hk1_1, hf1_1, hl1_1, hn1_1⟩ := hb1.lay (w.heap.size + 1))
 go_wp2_with (fail)
 refine (szValT_any _ _ _ _ _ (Dat.HoldVals.bel bl HV1.out) (by omega) (by omega)).mono ?_
 rintro e w2 ⟨rfl, hb2⟩
 rw [HZ1.out]
 (have hz2 := hb2.sz; obtain ⟨hk2_0, hf2_0, hl2_0, hn2_0⟩ := hb2.lay (w.heap.size); obtain ⟨hk2_1, hf2_1, hl2_1, hn2_1⟩ := hb2.lay (w.heap.size + 1))
 go_wp2_with (fail)
 have hbw : Bel w w2 := bl
 have a0_0 : w2.cell? ⟨w.heap.size, 0, none⟩ = some (.slice A0_0_0 x0_0.length c0_0_0) := by rw [hk2_0, hk1_0]; simp
 have a0_1 : w2.cell? ⟨w.heap.size, 1, none⟩ = some (.slice A0_0_1 x0_1.length c0_0_1) := by rw [hk2_0, hk1_0]; simp
 have a0_2 : w2.cell? ⟨w.heap.size, 2, none⟩ = some (.slice A0_0_2 x0_2.length c0_0_2) := by rw [hk2_0, hk1_0]; simp
 have a0_3 : w2.cell? ⟨w.heap.size, 3, none⟩ = some (.slice A0_0_3 x0_3.length c0_0_3) := by rw [hk2_0, hk1_0]; simp
 have a0_4 : w2.cell? ⟨w.heap.size, 4, none⟩ = some (.string x0_4) := by rw [hk2_0, hk1_0]; simp
 have a0_5 : w2.cell? ⟨w.heap.size, 5, none⟩ = some (.int .i64 x0_5) := by rw [hk2_0, hk1_0]; simp
 have a0_6 : w2.cell? ⟨w.heap.size, 6, none⟩ = some (.slice A0_0_6 x0_6.length c0_0_6) := by rw [hk2_0, hk1_0]; simp
 have a0_7 : w2.cell? ⟨w.heap.size, 7, none⟩ = some (.slice A0_0_7 x0_7.length c0_0_7) := by rw [hk2_0, hk1_0]; simp
 have a0_8 : w2.cell? ⟨w.heap.size, 8, none⟩ = some (.slice A0_0_8 x0_8.length c0_0_8) := by rw [hk2_0, hk1_0]; simp
 have a0_9 : w2.cell? ⟨w.heap.size, 9, none⟩ = some (.bool x0_9) := by rw [hk2_0, hk1_0]; simp
 have a0_10 : w2.cell? ⟨w.heap.size, 10, none⟩ = some (.int .i64 x0_10) := by rw [hk2_0, hk1_0]; simp
 have a0_11 : w2.cell? ⟨w.heap.size, 11, none⟩ = some (.int .i64 x0_11) := by rw [hk2_0, hk1_0]; simp
 have a0_12 : w2.cell? ⟨w.heap.size, 12, none⟩ = some (.int .i64 x0_12) := by rw [hk2_0, hk1_0]; simp
 have a1_0 : w2.cell? ⟨w.heap.size + 1, 0, none⟩ = some (.int .i64 x1_0) := by rw [hk2_1, hk1_1]; simp
 have a1_1 : w2.cell? ⟨w.heap.size + 1, 1, none⟩ = some (.int .i64 x1_1) := by rw [hk2_1, hk1_1]; simp
 have a1_2 : w2.cell? ⟨w.heap.size + 1, 2, none⟩ = some (.int .i64 x1_2) := by rw [hk2_1, hk1_1]; simp
 have a1_3 : w2.cell? ⟨w.heap.size + 1, 3, none⟩ = some (.string x1_3) := by rw [hk2_1, hk1_1]; simp
 have a1_4 : w2.cell? ⟨w.heap.size + 1, 4, none⟩ = some (.int .i64 x1_4) := by rw [hk2_1, hk1_1]; simp
 have a1_5 : w2.cell? ⟨w.heap.size + 1, 5, none⟩ = some (.int .i64 x1_5) := by rw [hk2_1, hk1_1]; simp
 have l0 : w.heap.size < w2.heap.size := by omega
 have l1 : w.heap.size + 1 < w2.heap.size := by omega
 clear hb1 hb2 hz1 hz2 hk1_0 hk1_1 hk2_0 hk2_1 hf1_0 hf1_1 hf2_0 hf2_1 hl1_0 hl1_1 hl2_0 hl2_1 hn1_0 hn1_1 hn2_0 hn2_1
 go_region_held3 (fun w' => w'.cell? ⟨w.heap.size, 0, none⟩ = some (.slice A0_0_0 x0_0.length c0_0_0) ∧ w'.cell? ⟨w.heap.size, 1, none⟩ = some (.slice A0_0_1 x0_1.length c0_0_1) ∧ w'.cell? ⟨w.heap.size, 2, none⟩ = some (.slice A0_0_2 x0_2.length c0_0_2) ∧ w'.cell? ⟨w.heap.size, 3, none⟩ = some (.slice A0_0_3 x0_3.length c0_0_3) ∧ w'.cell? ⟨w.heap.size, 4, none⟩ = some (.string x0_4) ∧ w'.cell? ⟨w.heap.size, 5, none⟩ = some (.int .i64 x0_5) ∧ w'.cell? ⟨w.heap.size, 6, none⟩ = some (.slice A0_0_6 x0_6.length c0_0_6) ∧ w'.cell? ⟨w.heap.size, 7, none⟩ = some (.slice A0_0_7 x0_7.length c0_0_7) ∧ w'.cell? ⟨w.heap.size, 8, none⟩ = some (.slice A0_0_8 x0_8.length c0_0_8) ∧ w'.cell? ⟨w.heap.size, 9, none⟩ = some (.bool x0_9) ∧ w'.cell? ⟨w.heap.size, 10, none⟩ = some (.int .i64 x0_10) ∧ w'.cell? ⟨w.heap.size, 11, none⟩ = some (.int .i64 x0_11) ∧ w'.cell? ⟨w.heap.size, 12, none⟩ = some (.int .i64 x0_12) ∧ w'.cell? ⟨w.heap.size + 1, 0, none⟩ = some (.int .i64 x1_0) ∧ w'.cell? ⟨w.heap.size + 1, 1, none⟩ = some (.int .i64 x1_1) ∧ w'.cell? ⟨w.heap.size + 1, 2, none⟩ = some (.int .i64 x1_2) ∧ w'.cell? ⟨w.heap.size + 1, 3, none⟩ = some (.string x1_3) ∧ w'.cell? ⟨w.heap.size + 1, 4, none⟩ = some (.int .i64 x1_4) ∧ w'.cell? ⟨w.heap.size + 1, 5, none⟩ = some (.int .i64 x1_5)) (first | exact ⟨(Bel.box (W := w2) bl (w.heap.size) l0 0).trans a0_0, (Bel.box (W := w2) bl (w.heap.size) l0 1).trans a0_1, (Bel.box (W := w2) bl (w.heap.size) l0 2).trans a0_2, (Bel.box (W := w2) bl (w.heap.size) l0 3).trans a0_3, (Bel.box (W := w2) bl (w.heap.size) l0 4).trans a0_4, (Bel.box (W := w2) bl (w.heap.size) l0 5).trans a0_5, (Bel.box (W := w2) bl (w.heap.size) l0 6).trans a0_6, (Bel.box (W := w2) bl (w.heap.size) l0 7).trans a0_7, (Bel.box (W := w2) bl (w.heap.size) l0 8).trans a0_8, (Bel.box (W := w2) bl (w.heap.size) l0 9).trans a0_9, (Bel.box (W := w2) bl (w.heap.size) l0 10).trans a0_10, (Bel.box (W := w2) bl (w.heap.size) l0 11).trans a0_11, (Bel.box (W := w2) bl (w.heap.size) l0 12).trans a0_12, (Bel.box (W := w2) bl (w.heap.size + 1) l1 0).trans a1_0, (Bel.box (W := w2) bl (w.heap.size + 1) l1 1).trans a1_1, (Bel.box (W := w2) bl (w.heap.size + 1) l1 2).trans a1_2, (Bel.box (W := w2) bl (w.heap.size + 1) l1 3).trans a1_3, (Bel.box (W := w2) bl (w.heap.size + 1) l1 4).trans a1_4, (Bel.box (W := w2) bl (w.heap.size + 1) l1 5).trans a1_5⟩) (first
   | (go_at_call 8; refine (toStore_any _ _ _ _ (Dat.HoldVals.bel bl HV0.out) HS0.out).mono ?_; rintro e w3 ⟨vs3, rfl, hv3, hb3⟩; obtain ⟨B3_0, d3_0, B3_1, d3_1, B3_2, d3_2, B3_3, d3_3, B3_6, d3_6, B3_7, d3_7, B3_8, d3_8, rfl, -⟩ := TStore.vals hv3; have HVc3 := hide hv3; clear hv3)
   | (go_at_call 9; refine (toValT_any _ _ _ _ (Dat.HoldVals.bel bl HV1.out) HS1.out).mono ?_; rintro e w4 ⟨vs4, rfl, hv4, hb4⟩; obtain ⟨rfl, -⟩ := TValue.vals hv4; have HVc4 := hide hv4; clear hv4)
   | (go_at_call 7; refine (specSizeOfValue_law (TStore.mk x0_0 x0_1 x0_2 x0_3 x0_4 x0_5 x0_6 x0_7 x0_8 x0_9 x0_10 x0_11 x0_12) (TValue.mk x1_0 x1_1 x1_2 x1_3 x1_4 x1_5) _ (HTab.out.on bl) _ _ (Dat.HoldVals.bel bl HVc3.out) HS0.out _ _ (Dat.HoldVals.bel bl HVc4.out) HS1.out).mono ?_; rintro e w5 ⟨rfl, hb5⟩))
 go_wp2_with (fail)
 refine (toStore_any _ _ _ _ (Dat.HoldVals.bel bl HV0.out) HS0.out).mono ?_
 rintro e wx ⟨vsx, rfl, hvx, hbx⟩; obtain ⟨Bx_0, dx_0, Bx_1, dx_1, Bx_2, dx_2, Bx_3, dx_3, Bx_6, dx_6, Bx_7, dx_7, Bx_8, dx_8, rfl, -⟩ := TStore.vals hvx; have HVx := hide hvx; clear hvx
 have h2x : Bel w2 wx := bl
 have hbwx : Bel w wx := hbw.trans h2x
 have q0 := h2x.box (w.heap.size) l0
 replace a0_0 := (q0 0).trans a0_0
 replace a0_1 := (q0 1).trans a0_1
 replace a0_2 := (q0 2).trans a0_2
 replace a0_3 := (q0 3).trans a0_3
 replace a0_4 := (q0 4).trans a0_4
 replace a0_5 := (q0 5).trans a0_5
 replace a0_6 := (q0 6).trans a0_6
 replace a0_7 := (q0 7).trans a0_7
 replace a0_8 := (q0 8).trans a0_8
 replace a0_9 := (q0 9).trans a0_9
 replace a0_10 := (q0 10).trans a0_10
 replace a0_11 := (q0 11).trans a0_11
 replace a0_12 := (q0 12).trans a0_12
 replace l0 := Nat.lt_of_lt_of_le l0 h2x.size
 have q1 := h2x.box (w.heap.size + 1) l1
 replace a1_0 := (q1 0).trans a1_0
 replace a1_1 := (q1 1).trans a1_1
 replace a1_2 := (q1 2).trans a1_2
 replace a1_3 := (q1 3).trans a1_3
 replace a1_4 := (q1 4).trans a1_4
 replace a1_5 := (q1 5).trans a1_5
 replace l1 := Nat.lt_of_lt_of_le l1 h2x.size
 clear hb3 hb4 hb5 hbx q0 q1 h2x hbw HVc3 HVc4
 have n0 : ¬ w.heap.size = wx.heap.size := by omega
 have n1 : ¬ w.heap.size + 1 = wx.heap.size := by omega
 go_upto_region 10 with (fail)
 obtain ⟨w6, hw6⟩ : ∃ x : World, x = wx.alloc (.cells #[.slice Bx_0 x0_0.length dx_0, .slice Bx_1 x0_1.length dx_1, .slice Bx_2 x0_2.length dx_2, .slice Bx_3 x0_3.length dx_3, .string x0_4, .int .i64 x0_5, .slice Bx_6 x0_6.length dx_6, .slice Bx_7 x0_7.length dx_7, .slice Bx_8 x0_8.length dx_8, .bool x0_9, .int .i64 x0_10, .int .i64 x0_11, .int .i64 x0_12] 42) := ⟨_, rfl⟩
 rw [← hw6]
 have h6 : Bel wx w6 := by rw [hw6]; exact Bel.alloc (Bel.refl _) _
 have hbw6 : Bel w w6 := hbwx.trans h6
 have q0 := h6.box (w.heap.size) l0
 replace a0_0 := (q0 0).trans a0_0
 replace a0_1 := (q0 1).trans a0_1
 replace a0_2 := (q0 2).trans a0_2
 replace a0_3 := (q0 3).trans a0_3
 replace a0_4 := (q0 4).trans a0_4
 replace a0_5 := (q0 5).trans a0_5
 replace a0_6 := (q0 6).trans a0_6
 replace a0_7 := (q0 7).trans a0_7
 replace a0_8 := (q0 8).trans a0_8
 replace a0_9 := (q0 9).trans a0_9
 replace a0_10 := (q0 10).trans a0_10
 replace a0_11 := (q0 11).trans a0_11
 replace a0_12 := (q0 12).trans a0_12
 replace l0 := Nat.lt_of_lt_of_le l0 h6.size
 have q1 := h6.box (w.heap.size + 1) l1
 replace a1_0 := (q1 0).trans a1_0
 replace a1_1 := (q1 1).trans a1_1
 replace a1_2 := (q1 2).trans a1_2
 replace a1_3 := (q1 3).trans a1_3
 replace a1_4 := (q1 4).trans a1_4
 replace a1_5 := (q1 5).trans a1_5
 replace l1 := Nat.lt_of_lt_of_le l1 h6.size
 have ax_0 : w6.cell? ⟨wx.heap.size, 0, none⟩ = some (.slice Bx_0 x0_0.length dx_0) := by rw [hw6]; simp
 have ax_1 : w6.cell? ⟨wx.heap.size, 1, none⟩ = some (.slice Bx_1 x0_1.length dx_1) := by rw [hw6]; simp
 have ax_2 : w6.cell? ⟨wx.heap.size, 2, none⟩ = some (.slice Bx_2 x0_2.length dx_2) := by rw [hw6]; simp
 have ax_3 : w6.cell? ⟨wx.heap.size, 3, none⟩ = some (.slice Bx_3 x0_3.length dx_3) := by rw [hw6]; simp
 have ax_4 : w6.cell? ⟨wx.heap.size, 4, none⟩ = some (.string x0_4) := by rw [hw6]; simp
 have ax_5 : w6.cell? ⟨wx.heap.size, 5, none⟩ = some (.int .i64 x0_5) := by rw [hw6]; simp
 have ax_6 : w6.cell? ⟨wx.heap.size, 6, none⟩ = some (.slice Bx_6 x0_6.length dx_6) := by rw [hw6]; simp
 have ax_7 : w6.cell? ⟨wx.heap.size, 7, none⟩ = some (.slice Bx_7 x0_7.length dx_7) := by rw [hw6]; simp
 have ax_8 : w6.cell? ⟨wx.heap.size, 8, none⟩ = some (.slice Bx_8 x0_8.length dx_8) := by rw [hw6]; simp
 have ax_9 : w6.cell? ⟨wx.heap.size, 9, none⟩ = some (.bool x0_9) := by rw [hw6]; simp
 have ax_10 : w6.cell? ⟨wx.heap.size, 10, none⟩ = some (.int .i64 x0_10) := by rw [hw6]; simp
 have ax_11 : w6.cell? ⟨wx.heap.size, 11, none⟩ = some (.int .i64 x0_11) := by rw [hw6]; simp
 have ax_12 : w6.cell? ⟨wx.heap.size, 12, none⟩ = some (.int .i64 x0_12) := by rw [hw6]; simp
 have lx : wx.heap.size < w6.heap.size := by rw [hw6]; simp
 have HVy := hide (Dat.HoldVals.bel h6 HVx.out)
 clear hw6 q0 q1 hbwx HVx h6 n0 n1
 have n0 : ¬ w.heap.size = w6.heap.size := by omega
 have n1 : ¬ w.heap.size + 1 = w6.heap.size := by omega
 have nx : ¬ wx.heap.size = w6.heap.size := by omega
 go_region_held3 (fun w' => w'.cell? ⟨w.heap.size + 1, 0, none⟩ = some (.int .i64 x1_0) ∧ w'.cell? ⟨w.heap.size + 1, 1, none⟩ = some (.int .i64 x1_1) ∧ w'.cell? ⟨w.heap.size + 1, 2, none⟩ = some (.int .i64 x1_2) ∧ w'.cell? ⟨w.heap.size + 1, 3, none⟩ = some (.string x1_3) ∧ w'.cell? ⟨w.heap.size + 1, 4, none⟩ = some (.int .i64 x1_4) ∧ w'.cell? ⟨w.heap.size + 1, 5, none⟩ = some (.int .i64 x1_5) ∧ w'.cell? ⟨wx.heap.size, 0, none⟩ = some (.slice Bx_0 x0_0.length dx_0) ∧ w'.cell? ⟨wx.heap.size, 1, none⟩ = some (.slice Bx_1 x0_1.length dx_1) ∧ w'.cell? ⟨wx.heap.size, 2, none⟩ = some (.slice Bx_2 x0_2.length dx_2) ∧ w'.cell? ⟨wx.heap.size, 3, none⟩ = some (.slice Bx_3 x0_3.length dx_3) ∧ w'.cell? ⟨wx.heap.size, 4, none⟩ = some (.string x0_4) ∧ w'.cell? ⟨wx.heap.size, 5, none⟩ = some (.int .i64 x0_5) ∧ w'.cell? ⟨wx.heap.size, 6, none⟩ = some (.slice Bx_6 x0_6.length dx_6) ∧ w'.cell? ⟨wx.heap.size, 7, none⟩ = some (.slice Bx_7 x0_7.length dx_7) ∧ w'.cell? ⟨wx.heap.size, 8, none⟩ = some (.slice Bx_8 x0_8.length dx_8) ∧ w'.cell? ⟨wx.heap.size, 9, none⟩ = some (.bool x0_9) ∧ w'.cell? ⟨wx.heap.size, 10, none⟩ = some (.int .i64 x0_10) ∧ w'.cell? ⟨wx.heap.size, 11, none⟩ = some (.int .i64 x0_11) ∧ w'.cell? ⟨wx.heap.size, 12, none⟩ = some (.int .i64 x0_12)) (first | exact ⟨(Bel.box (W := w6) bl (w.heap.size + 1) l1 0).trans a1_0, (Bel.box (W := w6) bl (w.heap.size + 1) l1 1).trans a1_1, (Bel.box (W := w6) bl (w.heap.size + 1) l1 2).trans a1_2, (Bel.box (W := w6) bl (w.heap.size + 1) l1 3).trans a1_3, (Bel.box (W := w6) bl (w.heap.size + 1) l1 4).trans a1_4, (Bel.box (W := w6) bl (w.heap.size + 1) l1 5).trans a1_5, (Bel.box (W := w6) bl (wx.heap.size) lx 0).trans ax_0, (Bel.box (W := w6) bl (wx.heap.size) lx 1).trans ax_1, (Bel.box (W := w6) bl (wx.heap.size) lx 2).trans ax_2, (Bel.box (W := w6) bl (wx.heap.size) lx 3).trans ax_3, (Bel.box (W := w6) bl (wx.heap.size) lx 4).trans ax_4, (Bel.box (W := w6) bl (wx.heap.size) lx 5).trans ax_5, (Bel.box (W := w6) bl (wx.heap.size) lx 6).trans ax_6, (Bel.box (W := w6) bl (wx.heap.size) lx 7).trans ax_7, (Bel.box (W := w6) bl (wx.heap.size) lx 8).trans ax_8, (Bel.box (W := w6) bl (wx.heap.size) lx 9).trans ax_9, (Bel.box (W := w6) bl (wx.heap.size) lx 10).trans ax_10, (Bel.box (W := w6) bl (wx.heap.size) lx 11).trans ax_11, (Bel.box (W := w6) bl (wx.heap.size) lx 12).trans ax_12⟩) (first
   | (go_at_call 9; refine (toValT_any _ _ _ _ (Dat.HoldVals.bel bl HV1.out) HS1.out).mono ?_; rintro e w7 ⟨vs7, rfl, hv7, hb7⟩; obtain ⟨rfl, -⟩ := TValue.vals hv7; have HVc7 := hide hv7; clear hv7)
   | (go_at_call 10; refine (implSizeOfValue_law (TStore.mk x0_0 x0_1 x0_2 x0_3 x0_4 x0_5 x0_6 x0_7 x0_8 x0_9 x0_10 x0_11 x0_12) (TValue.mk x1_0 x1_1 x1_2 x1_3 x1_4 x1_5) _ (HTab.out.on bl) _ _ (Dat.HoldVals.bel bl HVy.out) HS0.out _ _ (Dat.HoldVals.bel bl HVc7.out) HS1.out).mono ?_; rintro e w8 ⟨rfl, hb8⟩))
 go_wp2_with (fail)
 go_region_held3 (fun w' => w'.cell? ⟨w.heap.size, 0, none⟩ = some (.slice A0_0_0 x0_0.length c0_0_0) ∧ w'.cell? ⟨w.heap.size, 1, none⟩ = some (.slice A0_0_1 x0_1.length c0_0_1) ∧ w'.cell? ⟨w.heap.size, 2, none⟩ = some (.slice A0_0_2 x0_2.length c0_0_2) ∧ w'.cell? ⟨w.heap.size, 3, none⟩ = some (.slice A0_0_3 x0_3.length c0_0_3) ∧ w'.cell? ⟨w.heap.size, 4, none⟩ = some (.string x0_4) ∧ w'.cell? ⟨w.heap.size, 5, none⟩ = some (.int .i64 x0_5) ∧ w'.cell? ⟨w.heap.size, 6, none⟩ = some (.slice A0_0_6 x0_6.length c0_0_6) ∧ w'.cell? ⟨w.heap.size, 7, none⟩ = some (.slice A0_0_7 x0_7.length c0_0_7) ∧ w'.cell? ⟨w.heap.size, 8, none⟩ = some (.slice A0_0_8 x0_8.length c0_0_8) ∧ w'.cell? ⟨w.heap.size, 9, none⟩ = some (.bool x0_9) ∧ w'.cell? ⟨w.heap.size, 10, none⟩ = some (.int .i64 x0_10) ∧ w'.cell? ⟨w.heap.size, 11, none⟩ = some (.int .i64 x0_11) ∧ w'.cell? ⟨w.heap.size, 12, none⟩ = some (.int .i64 x0_12) ∧ w'.cell? ⟨wx.heap.size, 0, none⟩ = some (.slice Bx_0 x0_0.length dx_0) ∧ w'.cell? ⟨wx.heap.size, 1, none⟩ = some (.slice Bx_1 x0_1.length dx_1) ∧ w'.cell? ⟨wx.heap.size, 2, none⟩ = some (.slice Bx_2 x0_2.length dx_2) ∧ w'.cell? ⟨wx.heap.size, 3, none⟩ = some (.slice Bx_3 x0_3.length dx_3) ∧ w'.cell? ⟨wx.heap.size, 4, none⟩ = some (.string x0_4) ∧ w'.cell? ⟨wx.heap.size, 5, none⟩ = some (.int .i64 x0_5) ∧ w'.cell? ⟨wx.heap.size, 6, none⟩ = some (.slice Bx_6 x0_6.length dx_6) ∧ w'.cell? ⟨wx.heap.size, 7, none⟩ = some (.slice Bx_7 x0_7.length dx_7) ∧ w'.cell? ⟨wx.heap.size, 8, none⟩ = some (.slice Bx_8 x0_8.length dx_8) ∧ w'.cell? ⟨wx.heap.size, 9, none⟩ = some (.bool x0_9) ∧ w'.cell? ⟨wx.heap.size, 10, none⟩ = some (.int .i64 x0_10) ∧ w'.cell? ⟨wx.heap.size, 11, none⟩ = some (.int .i64 x0_11) ∧ w'.cell? ⟨wx.heap.size, 12, none⟩ = some (.int .i64 x0_12)) (first | exact ⟨(Bel.box (W := w6) bl (w.heap.size) l0 0).trans a0_0, (Bel.box (W := w6) bl (w.heap.size) l0 1).trans a0_1, (Bel.box (W := w6) bl (w.heap.size) l0 2).trans a0_2, (Bel.box (W := w6) bl (w.heap.size) l0 3).trans a0_3, (Bel.box (W := w6) bl (w.heap.size) l0 4).trans a0_4, (Bel.box (W := w6) bl (w.heap.size) l0 5).trans a0_5, (Bel.box (W := w6) bl (w.heap.size) l0 6).trans a0_6, (Bel.box (W := w6) bl (w.heap.size) l0 7).trans a0_7, (Bel.box (W := w6) bl (w.heap.size) l0 8).trans a0_8, (Bel.box (W := w6) bl (w.heap.size) l0 9).trans a0_9, (Bel.box (W := w6) bl (w.heap.size) l0 10).trans a0_10, (Bel.box (W := w6) bl (w.heap.size) l0 11).trans a0_11, (Bel.box (W := w6) bl (w.heap.size) l0 12).trans a0_12, (Bel.box (W := w6) bl (wx.heap.size) lx 0).trans ax_0, (Bel.box (W := w6) bl (wx.heap.size) lx 1).trans ax_1, (Bel.box (W := w6) bl (wx.heap.size) lx 2).trans ax_2, (Bel.box (W := w6) bl (wx.heap.size) lx 3).trans ax_3, (Bel.box (W := w6) bl (wx.heap.size) lx 4).trans ax_4, (Bel.box (W := w6) bl (wx.heap.size) lx 5).trans ax_5, (Bel.box (W := w6) bl (wx.heap.size) lx 6).trans ax_6, (Bel.box (W := w6) bl (wx.heap.size) lx 7).trans ax_7, (Bel.box (W := w6) bl (wx.heap.size) lx 8).trans ax_8, (Bel.box (W := w6) bl (wx.heap.size) lx 9).trans ax_9, (Bel.box (W := w6) bl (wx.heap.size) lx 10).trans ax_10, (Bel.box (W := w6) bl (wx.heap.size) lx 11).trans ax_11, (Bel.box (W := w6) bl (wx.heap.size) lx 12).trans ax_12⟩) (first
   | (go_at_call 8; refine (toStore_any _ _ _ _ (Dat.HoldVals.bel bl HV0.out) HS0.out).mono ?_; rintro e wd ⟨vsd, rfl, hvd, hbd⟩; obtain ⟨Bd_0, dd_0, Bd_1, dd_1, Bd_2, dd_2, Bd_3, dd_3, Bd_6, dd_6, Bd_7, dd_7, Bd_8, dd_8, rfl, -⟩ := TStore.vals hvd; have HVcd := hide hvd; clear hvd)
   | (go_at_call 11; refine (eqStore_any _ _ _ _ _ _ (Dat.HoldVals.bel bl HVy.out) (Dat.HoldVals.bel bl HVcd.out)).mono ?_; rintro e we ⟨rfl, hbe⟩))
 go_wp2_with (fail)
 all_goals
  go_returns
  exact ⟨rfl, bl⟩
end Go.Proofs.YteihfioaahemkaaGreatDoor
