/- The walk of FnExactLocalNames. -/
import Derived.Test.YtjodcciloflgbaaDoorPYn
import Derived.Test.YtjodcciloflgbaaDoorPHUnit
import Derived.Test.YtjodcciloflgbaaDoorPMUnit
import Derived.Deep.RegionHeld3
namespace Go.Proofs.YtjodcciloflgbaaDoor
set_option linter.unusedVariables false
set_option linter.unusedSimpArgs false
set_option maxRecDepth 100000
open Go.RowKit
set_option maxRecDepth 8000 in
set_option maxHeartbeats 8000000 in
theorem FnExactLocalNames_of (hSpec : LocTC 13) (hImpl : LocTC 14) (t0 : TUnit) (vs0 : List Value) (n1 : Int) (w : World) (hv0 : Dat.HoldVals w (fun _ => True) t0.D vs0) (_hn1 : InI n1) (htab : Sp w) :
  Calls Tryd.prog 5 #[.agg vs0.toArray, .int .i64 n1] w fun e w' => e = .returned (.bool true) ∧ Bel w w' := by
 have HSPEC := hide hSpec
 have HIMPL := hide hImpl
 have HTab := hide htab
 clear hSpec hImpl htab
 obtain ⟨x0, x1, x2⟩ := t0
 obtain ⟨l, hl⟩ : ∃ l, locT (TUnit.mk x0 x1 x2) n1 = l := ⟨_, rfl⟩
 have HL := hide hl
 have hll : l.length ≤ 700 := by rw [← hl]; exact locT_len _ _
 clear hl
 obtain ⟨A0_0, c0_0, A0_1, c0_1, A0_2, c0_2, rfl, -⟩ := TUnit.vals hv0
 have HV0 := hide hv0
 clear hv0
 obtain ⟨m0, hm0⟩ : ∃ m : Nat, m = Dat.wtL (TUnit.mk x0 x1 x2).D := ⟨_, rfl⟩
 rcases Int.lt_or_le (1048576 : Int) (m0 : Int) with hq0 | hq0
 ·
  have HZ0 := hide (show szL (Dat.wtL (TUnit.mk x0 x1 x2).D) (1048576 : Int) = -1 from szL_no (by omega))
  clear hq0 hm0
  go_enter Tryd.func5, Tryd.ntmps5
  go_wp2_with (fail)
  refine (szUnit_any _ _ _ _ _ (Dat.HoldVals.bel bl HV0.out) (by omega) (by omega)).mono ?_
  rintro e w1 ⟨rfl, hb1⟩
  rw [HZ0.out]
  (have hz1 := hb1.sz; obtain ⟨hk1_0, hf1_0, hl1_0, hn1_0⟩ := hb1.lay (w.heap.size))
  go_wp2_with (fail)
  all_goals
   go_returns
   exact ⟨rfl, bl⟩
 have HZ0 := hide (show szL (Dat.wtL (TUnit.mk x0 x1 x2).D) (1048576 : Int) = (1048576 : Int) - (m0 : Int) from by rw [szL_yes (by omega), hm0])
 have HS0 : Hid (Dat.wtL (TUnit.mk x0 x1 x2).D ≤ 1048576) := by show _ ≤ _; omega
 have HCN := hide (show (1 : Int) + (Dat.cntC (TUnit.mk x0 x1 x2).D : Nat) ≤ 4611686018427387904 by have := TUnit.mcnt_le (TUnit.mk x0 x1 x2); omega)
 have hlo0 : 0 ≤ (1048576 : Int) - (m0 : Int) := by omega
 have hle0 : (1048576 : Int) - (m0 : Int) ≤ 1048576 := by omega
 clear hm0 hq0
 have HCL := hide (show (1 : Int) + (Dat.cntR (strsD l) : Nat) ≤ 4611686018427387904 by rw [show (1:Int) + (Dat.cntR (strsD l) : Nat) = 1 + (l.length : Nat) by rw [show Dat.cntR (strsD l) = l.length from cntR_strs l]]; omega)
 go_enter Tryd.func5, Tryd.ntmps5
 go_wp2_with (fail)
 refine (szUnit_any _ _ _ _ _ (Dat.HoldVals.bel bl HV0.out) (by omega) (by omega)).mono ?_
 rintro e w1 ⟨rfl, hb1⟩
 rw [HZ0.out]
 (have hz1 := hb1.sz; obtain ⟨hk1_0, hf1_0, hl1_0, hn1_0⟩ := hb1.lay (w.heap.size))
 go_wp2_with (fail)
 refine (toUnit_any _ _ _ _ (Dat.HoldVals.bel bl HV0.out) HS0.out).mono ?_
 rintro e w2 ⟨vs2, rfl, hv2, hb2⟩; obtain ⟨A2_0, c2_0, A2_1, c2_1, A2_2, c2_2, rfl, -⟩ := TUnit.vals hv2; have HV2 := hide hv2; clear hv2; (have hz2 := hb2.sz; obtain ⟨hk2_0, hf2_0, hl2_0, hn2_0⟩ := hb2.lay (w.heap.size))
 go_wp2_with (fail)
 refine Calls.named fun wq3 hwq3 => ?_
 have HBQ3 : Hid (Bel w wq3) := by show Bel w wq3; rw [← hwq3]; exact bl
 refine (HSPEC.out (TUnit.mk x0 x1 x2) n1 wq3 (HTab.out.on HBQ3.out) _ _ (by rw [← hwq3]; exact Dat.HoldVals.bel bl HV2.out) HS0.out).mono ?_
 rintro e w3 ⟨B3, d3, L3, rfl, hr3, hn3, hlo3, hb3⟩
 rw [HL.out] at hr3
 rw [show (strsD (locT (TUnit.mk x0 x1 x2) n1)).length = l.length by rw [HL.out]; simp [strsD]]
 have HR3 := hide hr3
 have HN3 := hide hn3
 have HLO3 := hide hlo3
 clear hr3 hn3 hlo3
 subst hwq3
 (have hz3 := hb3.sz; obtain ⟨hk3_0, hf3_0, hl3_0, hn3_0⟩ := hb3.lay (w.heap.size))
 go_wp2_with (fail)
 refine Calls.named fun wq4 hwq4 => ?_
 have HBQ4 : Hid (Bel w wq4) := by show Bel w wq4; rw [← hwq4]; exact bl
 have HR3b : Hid (OwnRow wq4 L3 1 B3 d3 (strsD l)) := by show OwnRow _ _ _ _ _ _; rw [← hwq4]; exact OwnRow.bel bl HR3.out
 have hzz4 : w.heap.size < wq4.heap.size := by have h := HBQ4.out.size; rw [← hwq4]; (try simp only [World.size_alloc, World.size_setCell, World.size_drew, World.heap_drewN]); omega
 refine (toUnitL_any _ _ wq4 _ (by rw [← hwq4]; exact Dat.HoldVals.bel bl HV0.out) HS0.out).mono ?_
 rintro e w4 ⟨vs4, LX, rfl, hv4, hn4, hlo4, hb4⟩
 have HO4 := hide hv4
 have HNX := hide hn4
 have HX3 := hide (show ∀ b, b ∈ L3 → b ∉ LX from fun b hb h => by have h1 := HR3b.out.lt b hb; have h2 := hlo4 b h; omega)
 have HXW := hide (show ∀ b, b ∈ LX → w.heap.size < b from fun b hb => by have h2 := hlo4 b hb; omega)
 have HXT := hide (show ∀ b, b ∈ LX → b < w4.heap.size from fun b hb => hv4.lt _ _ _ b hb)
 have hz4 := hb4.size
 obtain ⟨A4_0, c4_0, A4_1, c4_1, A4_2, c4_2, rfl, -⟩ := TUnit.vals (Dat.OwnVals.vals (S := fun _ => True) (fun _ _ => trivial) hv4)
 clear hv4 hn4 hlo4 HR3b
 subst hwq4
 (have hz4 := hb4.sz; obtain ⟨hk4_0, hf4_0, hl4_0, hn4_0⟩ := hb4.lay (w.heap.size))
 go_wp2_with (fail)
 have HXB := hide (show ∀ b, b ∈ LX → b < w4.heap.size + 1 from fun b hb => by have := HXT.out b hb; omega)
 refine Calls.named fun wq5 hwq5 => ?_
 have HBQ5 : Hid (Bel w wq5) := by show Bel w wq5; rw [← hwq5]; exact bl
 have HO4q : Hid (Dat.OwnVals wq5 LX (TUnit.mk x0 x1 x2).D [.slice A4_0 x0.length c4_0, .slice A4_1 x1.length c4_1, .slice A4_2 x2.length c4_2]) := by show Dat.OwnVals _ _ _ _; rw [← hwq5]; exact Dat.OwnVals.bel bl HO4.out
 have HR3b : Hid (OwnRow wq5 L3 1 B3 d3 (strsD l)) := by show OwnRow _ _ _ _ _ _; rw [← hwq5]; exact OwnRow.bel bl HR3.out
 refine (HIMPL.out (TUnit.mk x0 x1 x2) n1 wq5 (HTab.out.on HBQ5.out) (fun _ => True) _ (Dat.OwnVals.vals (fun _ _ => trivial) HO4q.out) HS0.out).mono ?_
 rintro e w5 ⟨B5, d5, L5, rfl, hr5, hn5, hlo5, hb5⟩
 rw [HL.out] at hr5
 rw [show (strsD (locT (TUnit.mk x0 x1 x2) n1)).length = l.length by rw [HL.out]; simp [strsD]]
 have HR5 := hide hr5
 have HN5 := hide hn5
 have HX5 := hide (show ∀ b, b ∈ L5 → b ∉ LX from fun b hb h => by have h1 := HO4q.out.lt _ _ _ b h; have h2 := hlo5 b hb; omega)
 have H35 := hide (show ∀ b, b ∈ L3 → b ∉ L5 from fun b hb h => by have h1 := HR3b.out.lt b hb; have h2 := hlo5 b h; omega)
 have H5W := hide (show ∀ b, b ∈ L5 → w.heap.size < b from fun b hb => by have h2 := hlo5 b hb; have h3 := HBQ5.out.size; have h4 : w4.heap.size < wq5.heap.size := (by rw [← hwq5]; (try simp only [World.size_alloc, World.size_setCell, World.size_drew, World.heap_drewN]); omega); omega)
 clear hr5 hn5 hlo5 HO4q HR3b
 subst hwq5
 (have hz5 := hb5.sz; obtain ⟨hk5_0, hf5_0, hl5_0, hn5_0⟩ := hb5.lay (w.heap.size); obtain ⟨hk5_1, hf5_1, hl5_1, hn5_1⟩ := hb5.lay (w4.heap.size))
 go_wp2_with (fail)
 refine (eqStringS_any l (fun _ => True) (fun _ => True) _ _ _ _ _ (OwnRow.row (fun _ _ => trivial) (OwnRow.bel bl HR5.out)) (OwnRow.row (fun _ _ => trivial) (OwnRow.bel bl HR3.out))).mono ?_
 rintro e w6 ⟨rfl, hb6⟩; (have hz6 := hb6.sz; obtain ⟨hk6_0, hf6_0, hl6_0, hn6_0⟩ := hb6.lay (w.heap.size); obtain ⟨hk6_1, hf6_1, hl6_1, hn6_1⟩ := hb6.lay (w4.heap.size))
 go_wp2_with (fail)
 go_region_held3 (fun w' => w'.cell? ⟨w.heap.size, 0, none⟩ = some (.slice A0_0 x0.length c0_0) ∧ w'.cell? ⟨w.heap.size, 1, none⟩ = some (.slice A0_1 x1.length c0_1) ∧ w'.cell? ⟨w.heap.size, 2, none⟩ = some (.slice A0_2 x2.length c0_2) ∧ w'.cell? ⟨w4.heap.size, 0, none⟩ = some (.slice A4_0 x0.length c4_0) ∧ w'.cell? ⟨w4.heap.size, 1, none⟩ = some (.slice A4_1 x1.length c4_1) ∧ w'.cell? ⟨w4.heap.size, 2, none⟩ = some (.slice A4_2 x2.length c4_2)) (go_keep) (first
   | (go_at_call 8; refine (toUnit_any _ _ _ _ (Dat.HoldVals.bel bl HV0.out) HS0.out).mono ?_; rintro e w7 ⟨vs7, rfl, hv7, hb7⟩; obtain ⟨A7_0, c7_0, A7_1, c7_1, A7_2, c7_2, rfl, -⟩ := TUnit.vals hv7; have HV7 := hide hv7; clear hv7; (have hz7 := hb7.sz; obtain ⟨hk7_0, hf7_0, hl7_0, hn7_0⟩ := hb7.lay (w.heap.size); obtain ⟨hk7_1, hf7_1, hl7_1, hn7_1⟩ := hb7.lay (w4.heap.size)))
   | (go_at_call 10; refine (eqUnit_any _ (fun _ => True) _ _ _ _ (Dat.OwnVals.vals (fun _ _ => trivial) (Dat.OwnVals.bel bl HO4.out)) HV7.out).mono ?_; rintro e w8 ⟨rfl, hb8⟩; (have hz8 := hb8.sz; obtain ⟨hk8_0, hf8_0, hl8_0, hn8_0⟩ := hb8.lay (w.heap.size); obtain ⟨hk8_1, hf8_1, hl8_1, hn8_1⟩ := hb8.lay (w4.heap.size))))
 go_wp2_with (fail)
 refine Calls.named fun wq9 hwq9 => ?_
 have HBQ9 : Hid (Bel w wq9) := by show Bel w wq9; rw [← hwq9]; exact bl
 have HO4q : Hid (Dat.OwnVals wq9 LX (TUnit.mk x0 x1 x2).D [.slice A4_0 x0.length c4_0, .slice A4_1 x1.length c4_1, .slice A4_2 x2.length c4_2]) := by show Dat.OwnVals _ _ _ _; rw [← hwq9]; exact Dat.OwnVals.bel bl HO4.out
 have HR3b : Hid (OwnRow wq9 L3 1 B3 d3 (strsD l)) := by show OwnRow _ _ _ _ _ _; rw [← hwq9]; exact OwnRow.bel bl HR3.out
 have HR5b : Hid (OwnRow wq9 L5 1 B5 d5 (strsD l)) := by show OwnRow _ _ _ _ _ _; rw [← hwq9]; exact OwnRow.bel bl HR5.out
 have hzq9 : w.heap.size < wq9.heap.size := by have h4 : w4.heap.size < wq9.heap.size := (by rw [← hwq9]; (try simp only [World.size_alloc, World.size_setCell, World.size_drew, World.heap_drewN]); omega); omega
 have z9_0 : wq9.cell? ⟨w.heap.size, 0, none⟩ = some (.slice A0_0 x0.length c0_0) := by rw [← hwq9]; clear hwq9; simp [go_sem, *]
 have z9_1 : wq9.cell? ⟨w.heap.size, 1, none⟩ = some (.slice A0_1 x1.length c0_1) := by rw [← hwq9]; clear hwq9; simp [go_sem, *]
 have z9_2 : wq9.cell? ⟨w.heap.size, 2, none⟩ = some (.slice A0_2 x2.length c0_2) := by rw [← hwq9]; clear hwq9; simp [go_sem, *]
 clear hwq9 hb1 hb2 hb3 hb4 hb5 hb6
 refine (markUnit_any _ LX wq9 _ 1 HO4q.out HNX.out (by omega) HCN.out).mono ?_
 rintro e w9 ⟨⟨k9, hk9, rfl⟩, ho9⟩
 have hb9 : Bel w w9 := ho9.toBel HBQ9.out (fun x hx h => by have := HXW.out x h; omega)
 have HR3c := hide (OwnRow.offS ho9 (fun x hx => HX3.out x hx) HR3b.out)
 have HR5c := hide (OwnRow.offS ho9 (fun x hx => HX5.out x hx) HR5b.out)
 have hss9 := (ho9.same w.heap.size (fun h => by have := HXW.out _ h; omega) hzq9).1
 have y9_0 : w9.cell? ⟨w.heap.size, 0, none⟩ = some (.slice A0_0 x0.length c0_0) := (hss9 0).trans z9_0
 have y9_1 : w9.cell? ⟨w.heap.size, 1, none⟩ = some (.slice A0_1 x1.length c0_1) := (hss9 1).trans z9_1
 have y9_2 : w9.cell? ⟨w.heap.size, 2, none⟩ = some (.slice A0_2 x2.length c0_2) := (hss9 2).trans z9_2
 have hz9 := ho9.size
 have hzw9 : w.heap.size < w9.heap.size := by omega
 have dk9 : decide (k9 < 0) = false := by simp; omega
 clear HO4 HO4q HR3b HR5b HR3 HR5 hss9 ho9 z9_0 z9_1 z9_2
 go_wp2_with (fail)
 all_goals (try go_wp2_with (fail))
 refine (eqStringS_any l (fun _ => True) (fun _ => True) _ _ _ _ _ (OwnRow.row (fun _ _ => trivial) (OwnRow.bel bl HR5c.out)) (OwnRow.row (fun _ _ => trivial) (OwnRow.bel bl HR3c.out))).mono ?_
 rintro e w10 ⟨rfl, hb10⟩; (have hz10 := hb10.sz; obtain ⟨hk10_0, hf10_0, hl10_0, hn10_0⟩ := hb10.lay (w.heap.size))
 go_wp2_with (fail)
 refine Calls.named fun wq11 hwq11 => ?_
 have HBQ11 : Hid (Bel w wq11) := by show Bel w wq11; rw [← hwq11]; exact bl
 have HR3b : Hid (OwnRow wq11 L3 1 B3 d3 (strsD l)) := by show OwnRow _ _ _ _ _ _; rw [← hwq11]; exact OwnRow.bel bl HR3c.out
 have HR5b : Hid (OwnRow wq11 L5 1 B5 d5 (strsD l)) := by show OwnRow _ _ _ _ _ _; rw [← hwq11]; exact OwnRow.bel bl HR5c.out
 have hzq11 : w.heap.size < wq11.heap.size := by rw [← hwq11]; (try simp only [World.size_alloc, World.size_setCell, World.size_drew, World.heap_drewN]); omega
 have z11_0 : wq11.cell? ⟨w.heap.size, 0, none⟩ = some (.slice A0_0 x0.length c0_0) := by rw [← hwq11]; clear hwq11; simp [go_sem, *]
 have z11_1 : wq11.cell? ⟨w.heap.size, 1, none⟩ = some (.slice A0_1 x1.length c0_1) := by rw [← hwq11]; clear hwq11; simp [go_sem, *]
 have z11_2 : wq11.cell? ⟨w.heap.size, 2, none⟩ = some (.slice A0_2 x2.length c0_2) := by rw [← hwq11]; clear hwq11; simp [go_sem, *]
 clear hwq11 hb10 hb9 y9_0 y9_1 y9_2
 refine (markStringS_any l L5 wq11 B5 d5 1 HR5b.out HN5.out (by omega) HCL.out).mono ?_
 rintro e w11 ⟨rfl, hr11, ho11⟩
 have HR11 := hide hr11
 have hb11 : Bel w w11 := ho11.toBel HBQ11.out (fun x hx h => by have := H5W.out x h; omega)
 have HR3d := hide (OwnRow.offS ho11 (fun x hx => H35.out x hx) HR3b.out)
 have hss11 := (ho11.same w.heap.size (fun h => by have := H5W.out _ h; omega) hzq11).1
 have y11_0 : w11.cell? ⟨w.heap.size, 0, none⟩ = some (.slice A0_0 x0.length c0_0) := (hss11 0).trans z11_0
 have y11_1 : w11.cell? ⟨w.heap.size, 1, none⟩ = some (.slice A0_1 x1.length c0_1) := (hss11 1).trans z11_1
 have y11_2 : w11.cell? ⟨w.heap.size, 2, none⟩ = some (.slice A0_2 x2.length c0_2) := (hss11 2).trans z11_2
 have hz11 := ho11.size
 have hzw11 : w.heap.size < w11.heap.size := by omega
 obtain ⟨q, hq⟩ : ∃ q : Nat, Dat.cntR (strsD l) = q := ⟨_, rfl⟩
 have HQ := hide hq
 have hqq := HCL.out
 rw [hq] at hqq
 have HQ2 := hide (show Dat.cntR (List.map (fun x => [Dat.str x]) l) = q from hq)
 rw [HQ2.out]
 have dq0 : decide ((1 : Int) + (q : Int) < 0) = false := by simp; omega
 clear hq hr11 HR3c HR5c HR3b HR5b ho11 hss11 z11_0 z11_1 z11_2
 go_wp2_with (fail)
 refine (heldStringS_any l (fun _ => True) _ _ _ _ (OwnRow.row (fun _ _ => trivial) (OwnRow.bel bl HR11.out)) (by omega) HCL.out).mono ?_
 rintro e w12 ⟨rfl, hb12⟩; rw [HQ2.out]; (have hz12 := hb12.sz; obtain ⟨hk12_0, hf12_0, hl12_0, hn12_0⟩ := hb12.lay (w.heap.size))
 go_wp2_with (fail)
 refine (toUnit_any _ _ _ _ (Dat.HoldVals.bel bl HV0.out) HS0.out).mono ?_
 rintro e w13 ⟨vs13, rfl, hv13, hb13⟩; obtain ⟨A13_0, c13_0, A13_1, c13_1, A13_2, c13_2, rfl, -⟩ := TUnit.vals hv13; have HV13 := hide hv13; clear hv13; (have hz13 := hb13.sz; obtain ⟨hk13_0, hf13_0, hl13_0, hn13_0⟩ := hb13.lay (w.heap.size))
 go_wp2_with (fail)
 refine Calls.named fun wq14 hwq14 => ?_
 have HBQ14 : Hid (Bel w wq14) := by show Bel w wq14; rw [← hwq14]; exact bl
 refine (HIMPL.out (TUnit.mk x0 x1 x2) n1 wq14 (HTab.out.on HBQ14.out) _ _ (by rw [← hwq14]; exact Dat.HoldVals.bel bl HV13.out) HS0.out).mono ?_
 rintro e w14 ⟨B14, d14, L14, rfl, hr14, -, -, hb14⟩
 rw [HL.out] at hr14
 rw [show (strsD (locT (TUnit.mk x0 x1 x2) n1)).length = l.length by rw [HL.out]; simp [strsD]]
 have HR14 := hide hr14
 clear hr14
 subst hwq14
 (have hz14 := hb14.sz; obtain ⟨hk14_0, hf14_0, hl14_0, hn14_0⟩ := hb14.lay (w.heap.size))
 go_wp2_with (fail)
 refine (eqStringS_any l (fun _ => True) (fun _ => True) _ _ _ _ _ (OwnRow.row (fun _ _ => trivial) (OwnRow.bel bl HR14.out)) (OwnRow.row (fun _ _ => trivial) (OwnRow.bel bl HR3d.out))).mono ?_
 rintro e w15 ⟨rfl, hb15⟩; (have hz15 := hb15.sz; obtain ⟨hk15_0, hf15_0, hl15_0, hn15_0⟩ := hb15.lay (w.heap.size))
 go_wp2_with (fail)
 refine (heldStringS_any l (fun _ => True) _ _ _ _ (OwnRow.row (fun _ _ => trivial) (OwnRow.bel bl HR11.out)) (by omega) HCL.out).mono ?_
 rintro e w16 ⟨rfl, hb16⟩; rw [HQ2.out]; (have hz16 := hb16.sz; obtain ⟨hk16_0, hf16_0, hl16_0, hn16_0⟩ := hb16.lay (w.heap.size))
 go_wp2_with (fail)
 all_goals
  go_returns
  exact ⟨rfl, bl⟩
end Go.Proofs.YtjodcciloflgbaaDoor
