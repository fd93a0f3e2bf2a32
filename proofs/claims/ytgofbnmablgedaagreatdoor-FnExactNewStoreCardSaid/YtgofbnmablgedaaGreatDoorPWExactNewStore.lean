/- The walk of FnExactNewStore. -/
import Derived.Test.YtgofbnmablgedaaGreatDoorPNe
import Derived.Test.YtgofbnmablgedaaGreatDoorPMWStore
import Derived.Test.YtgofbnmablgedaaGreatDoorPMCore
import Derived.Test.YtgofbnmablgedaaGreatDoorPHStore
import Derived.Deep.RegionHeld3
namespace Go.Proofs.YtgofbnmablgedaaGreatDoor
set_option linter.unusedVariables false
set_option linter.unusedSimpArgs false
set_option maxRecDepth 100000
open Go.RowKit
def B4 (w : World) (b : Nat) (v0 v1 v2 v3 : Value) : Prop := b < w.heap.size ∧ w.cell? ⟨b, 0, none⟩ = some v0 ∧ w.cell? ⟨b, 1, none⟩ = some v1 ∧ w.cell? ⟨b, 2, none⟩ = some v2 ∧ w.cell? ⟨b, 3, none⟩ = some v3
theorem B4.block {w w' : World} {b : Nat} {v0 v1 v2 v3 : Value} (h : B4 w b v0 v1 v2 v3) (hs : w.heap.size ≤ w'.heap.size) (hb : w'.heap[b]? = w.heap[b]?) : B4 w' b v0 v1 v2 v3 := by
 obtain ⟨l, c0, c1, c2, c3⟩ := h
 have e : ∀ o, w'.cell? ⟨b, o, none⟩ = w.cell? ⟨b, o, none⟩ := fun o => World.cell?_of_block hb
 exact ⟨by omega, (e 0).trans c0, (e 1).trans c1, (e 2).trans c2, (e 3).trans c3⟩
theorem B4.on {w w' : World} {b : Nat} {v0 v1 v2 v3 : Value} (h : B4 w b v0 v1 v2 v3) (k : Bel w w') : B4 w' b v0 v1 v2 v3 := h.block k.size (Below.block k b h.1)
structure NwF (w0 w : World) (bA bW bG : Nat) (a0 a1 a2 a3 v0 v1 v2 v3 v4 v5 v6 v7 v8 v9 v10 v11 v12 u0 u1 u2 u3 u4 u5 u6 u7 u8 u9 u10 u11 u12 : Value) (LW : List Nat) (D : List Dat) : Prop where
 bel : Bel w0 w
 pa : B4 w bA a0 a1 a2 a3
 sw : SB w bW v0 v1 v2 v3 v4 v5 v6 v7 v8 v9 v10 v11 v12
 sg : SB w bG u0 u1 u2 u3 u4 u5 u6 u7 u8 u9 u10 u11 u12
 ow : Dat.OwnVals w LW D [v0, v1, v2, v3, v4, v5, v6, v7, v8, v9, v10, v11, v12]
section
variable {w0 w w' : World} {bA bW bG : Nat} {a0 a1 a2 a3 v0 v1 v2 v3 v4 v5 v6 v7 v8 v9 v10 v11 v12 u0 u1 u2 u3 u4 u5 u6 u7 u8 u9 u10 u11 u12 : Value} {LW : List Nat} {D : List Dat}
theorem NwF.on (h : NwF w0 w bA bW bG a0 a1 a2 a3 v0 v1 v2 v3 v4 v5 v6 v7 v8 v9 v10 v11 v12 u0 u1 u2 u3 u4 u5 u6 u7 u8 u9 u10 u11 u12 LW D) (k : Bel w w') : NwF w0 w' bA bW bG a0 a1 a2 a3 v0 v1 v2 v3 v4 v5 v6 v7 v8 v9 v10 v11 v12 u0 u1 u2 u3 u4 u5 u6 u7 u8 u9 u10 u11 u12 LW D := ⟨h.bel.trans k, h.pa.on k, h.sw.on k, h.sg.on k, h.ow.bel k⟩
theorem NwF.off {S : Nat → Prop} (h : NwF w0 w bA bW bG a0 a1 a2 a3 v0 v1 v2 v3 v4 v5 v6 v7 v8 v9 v10 v11 v12 u0 u1 u2 u3 u4 u5 u6 u7 u8 u9 u10 u11 u12 LW D) (k : OffS S w w') (h0 : ∀ x, x < w0.heap.size → S x) (hA : S bA) (hW : S bW) (hG : S bG) (hL : ∀ x, x ∈ LW → S x) : NwF w0 w' bA bW bG a0 a1 a2 a3 v0 v1 v2 v3 v4 v5 v6 v7 v8 v9 v10 v11 v12 u0 u1 u2 u3 u4 u5 u6 u7 u8 u9 u10 u11 u12 LW D :=
 ⟨k.toBel h.bel h0, h.pa.block k.size (k.block bA hA h.pa.1), h.sw.block k.size (k.block bW hW h.sw.1), h.sg.block k.size (k.block bG hG h.sg.1), h.ow.offS k hL⟩
end
set_option maxRecDepth 8000 in
set_option maxHeartbeats 8000000 in
theorem FnExactNewStore_walk (t0 : TProgram) (vs0 : List Value) (b : Int) (tr : Bool) (w : World) (hv0 : Dat.HoldVals w (fun _ => True) t0.D vs0) (hb : InI b) (htab : Sp w) :
  Calls Tryz.prog 3 #[.agg vs0.toArray, .int .i64 b, .bool tr] w fun e w' => e = .returned (.bool true) ∧ Bel w w' := by
 have HT := hide htab
 have HB := hide hb
 clear htab hb
 obtain ⟨x0, x1, x2, x3⟩ := t0
 obtain ⟨A0, c0, A1, c1, A2, c2, rfl, -⟩ := TProgram.vals hv0
 have HV := hide hv0
 clear hv0
 obtain ⟨T, hT⟩ : ∃ T, newT (TProgram.mk x0 x1 x2 x3) b tr = T := ⟨_, rfl⟩
 have hwt := newT_wt (TProgram.mk x0 x1 x2 x3) b tr
 rw [hT] at hwt
 obtain ⟨ok, hok⟩ : ∃ q, newOk (TProgram.mk x0 x1 x2 x3) b = q := ⟨_, rfl⟩
 have HN := hide hT
 have HO := hide hok
 clear hT hok
 obtain ⟨y0, y1, y2, y3, y4, y5, y6, y7, y8, y9, y10, y11, y12⟩ := T
 have hrc := TStore.rcnt_le (TStore.mk y0 y1 y2 y3 y4 y5 y6 y7 y8 y9 y10 y11 y12)
 obtain ⟨m0, hm0⟩ : ∃ m : Nat, m = Dat.wtL (TProgram.mk x0 x1 x2 x3).D := ⟨_, rfl⟩
 have hoo : (ok != ok) = false := by simp
 rcases Int.lt_or_le (1048576 : Int) (m0 : Int) with hq0 | hq0
 ·
  have HZ0 := hide (show szL (Dat.wtL (TProgram.mk x0 x1 x2 x3).D) (1048576 : Int) = -1 from szL_no (by omega))
  clear hq0 hm0
  go_enter Tryz.func3, Tryz.ntmps3
  go_wp2_with (go_at_call 4; refine (szProgram_any _ _ _ _ _ (Dat.HoldVals.bel bl HV.out) (by omega) (by omega)).mono ?_; rintro e w1 ⟨rfl, hb1⟩; rw [HZ0.out]; (have hz1 := hb1.sz; obtain ⟨hk1_0, hf1_0, hl1_0, hn1_0⟩ := hb1.lay (w.heap.size)))
  all_goals
   go_returns
   exact ⟨rfl, bl⟩
 have HZ0 := hide (show szL (Dat.wtL (TProgram.mk x0 x1 x2 x3).D) (1048576 : Int) = (1048576 : Int) - (m0 : Int) from by rw [szL_yes (by omega), hm0])
 have hws : Dat.wtL (TProgram.mk x0 x1 x2 x3).D ≤ 1048576 := by omega
 have HS0 := hide hws
 have HCN := hide (show (1 : Int) + (Dat.cntC (TProgram.mk x0 x1 x2 x3).D : Nat) ≤ 4611686018427387904 by have := TProgram.mcnt_le (TProgram.mk x0 x1 x2 x3); omega)
 obtain ⟨q, hq⟩ : ∃ q, TStore.rcnt (TStore.mk y0 y1 y2 y3 y4 y5 y6 y7 y8 y9 y10 y11 y12) = q := ⟨_, rfl⟩
 have HQ := hide hq
 have hqb : q ≤ 16777216 := by omega
 have HCL := hide (show (1 : Int) + (TStore.rcnt (TStore.mk y0 y1 y2 y3 y4 y5 y6 y7 y8 y9 y10 y11 y12) : Nat) ≤ 4611686018427387904 by omega)
 have hlo : 0 ≤ (1048576 : Int) - (m0 : Int) := by omega
 have hle : (1048576 : Int) - (m0 : Int) ≤ 1048576 := by omega
 clear hm0 hq0 hws hwt hrc hq
 have dz0 : decide ((1048576 : Int) - (m0 : Int) < 0) = false := by simp; omega
 go_enter Tryz.func3, Tryz.ntmps3
 go_upto_region 3 with (go_at_call 4; refine (szProgram_any _ _ _ _ _ (Dat.HoldVals.bel bl HV.out) (by omega) (by omega)).mono ?_; rintro e w1 ⟨rfl, hb1⟩; rw [HZ0.out]; (have hz1 := hb1.sz; obtain ⟨hk1_0, hf1_0, hl1_0, hn1_0⟩ := hb1.lay (w.heap.size)))
 generalize hmm : (1048576 : Int) - (m0 : Int) = mm at dz0 ⊢
 clear hlo hle hmm
 go_upto_region 5 with (fail)
 refine wp_named2 fun wA hwA => ?_
 have hbA : Bel w wA := by rw [← hwA]; exact bl
 have PA := hide (show B4 wA w.heap.size (.slice A0 x0.length c0) (.slice A1 x1.length c1) (.slice A2 x2.length c2) (.int .i64 x3) from by rw [← hwA]; exact ⟨by omega, by simp [hk1_0, go_sem], by simp [hk1_0, go_sem], by simp [hk1_0, go_sem], by simp [hk1_0, go_sem]⟩)
 clear hwA hb1 hz1 hk1_0 hf1_0 hl1_0 hn1_0
 have pb := PA.out
 obtain ⟨hlA, kA_0, kA_1, kA_2, kA_3⟩ := pb
 go_upto_region 6 with (first
   | (go_at_call 6; refine (toProgram_any _ _ _ _ (Dat.HoldVals.bel (Bel.trans hbA bl) HV.out) HS0.out).mono ?_; rintro e w2 ⟨vs2, rfl, hv2, hb2⟩; obtain ⟨i2A0, i2c0, i2A1, i2c1, i2A2, i2c2, rfl, -⟩ := TProgram.vals hv2; have HP2 := hide hv2; clear hv2)
   | (go_at_call 5; refine (specNew_any (TProgram.mk x0 x1 x2 x3) b tr _ _ _ (HT.out.on (Bel.trans hbA bl)) (Dat.HoldVals.bel bl HP2.out) HS0.out HB.out).mono ?_; rintro e w3 ⟨us3, L3, rfl, hO3, hN3, hL3, hb3⟩; rw [HO.out]; rw [HN.out] at hO3; obtain ⟨WA0, Wc0, -, WA1, Wc1, -, WA2, Wc2, -, WA3, Wc3, -, WA6, Wc6, -, WA7, Wc7, -, WA8, Wc8, -, -, rfl, -⟩ := TStore.vals_own hO3; have HO3 := hide hO3; have HN3 := hide hN3; have HL3 := hide hL3; clear hO3 hN3 hL3))
 refine wp_named2 fun wB hwB => ?_
 have hbB : Bel w3 wB := by rw [← hwB]; exact bl
 have SW := hide (show SB wB w3.heap.size (.slice WA0 y0.length Wc0) (.slice WA1 y1.length Wc1) (.slice WA2 y2.length Wc2) (.slice WA3 y3.length Wc3) (.string y4) (.int .i64 y5) (.slice WA6 y6.length Wc6) (.slice WA7 y7.length Wc7) (.slice WA8 y8.length Wc8) (.bool y9) (.int .i64 y10) (.int .i64 y11) (.int .i64 y12) from by rw [← hwB]; exact SB.new _ _)
 have hzB : wB.heap.size = w3.heap.size + 1 := by rw [← hwB]; simp
 clear hwB
 have hA1 := PA.out.1
 have hs2 := hb2.size
 have hs3 := hb3.size
 have HLW := hide (show ∀ x, x ∈ L3 → w.heap.size < x ∧ x < w3.heap.size from fun x hx => ⟨by have := HL3.out x hx; omega, Dat.OwnVals.lt _ _ _ HO3.out x hx⟩)
 have hwb : Bel wA wB := Bel.trans hb2 (Bel.trans hb3 hbB)
 have hbwB := Bel.trans hbA hwb
 have PB := hide (PA.out.on hwb)
 have OW := hide (HO3.out.bel hbB)
 have hbWz : w.heap.size < w3.heap.size := by omega
 clear hlA kA_0 kA_1 kA_2 kA_3
 clear HL3 HN3 HO3 HP2 hwb hb2 hb3 hbB hs2 hs3 hA1 PA hbA
 generalize w3.heap.size = bW at SW hzB HLW hbWz ⊢
 clear w3
 have pb := PB.out
 obtain ⟨hlB, kB_0, kB_1, kB_2, kB_3⟩ := pb
 go_upto_region 7 with (go_at_call 6; refine (toProgramL_any _ _ _ _ (Dat.HoldVals.bel (Bel.trans hbwB bl) HV.out) HS0.out).mono ?_; rintro e w4 ⟨vs4, LX, rfl, hv4, hn4, hl4, hb4⟩; obtain ⟨XA0, Xc0, -, XA1, Xc1, -, XA2, Xc2, -, -, rfl, -⟩ := TProgram.vals_own hv4; have HX4 := hide hv4; have HNX := hide hn4; have HLX4 := hide hl4; clear hv4 hn4 hl4)
 refine wp_named2 fun wC hwC => ?_
 have hbC : Bel w4 wC := by rw [← hwC]; exact bl
 have BX := hide (show B4 wC w4.heap.size (.slice XA0 x0.length Xc0) (.slice XA1 x1.length Xc1) (.slice XA2 x2.length Xc2) (.int .i64 x3) from by rw [← hwC]; exact ⟨by simp, by simp [go_sem], by simp [go_sem], by simp [go_sem], by simp [go_sem]⟩)
 have hzC : wC.heap.size = w4.heap.size + 1 := by rw [← hwC]; simp
 clear hwC
 have hs4 := hb4.size
 have HLX := hide (show ∀ x, x ∈ LX → wB.heap.size ≤ x ∧ x < w4.heap.size from fun x hx => ⟨HLX4.out x hx, Dat.OwnVals.lt _ _ _ HX4.out x hx⟩)
 have hbBC := Bel.trans hb4 hbC
 have HX := hide (HX4.out.bel hbC)
 have PC := hide (PB.out.on hbBC)
 have SC := hide (SW.out.on hbBC)
 have OC := hide (OW.out.bel hbBC)
 have hbwC := Bel.trans hbwB hbBC
 clear hlB kB_0 kB_1 kB_2 kB_3
 have hXb : wB.heap.size ≤ w4.heap.size := hs4
 clear HX4 HLX4 PB SW OW hb4 hbC hs4 hbBC hbwB
 generalize w4.heap.size = bX at BX hzC HLX hXb ⊢
 clear w4
 have pb := BX.out
 obtain ⟨hlX, kX_0, kX_1, kX_2, kX_3⟩ := pb
 go_upto_region 8 with (go_at_call 7; refine (implNew_any (TProgram.mk x0 x1 x2 x3) b tr _ _ _ (HT.out.on (Bel.trans hbwC bl)) (Dat.OwnVals.vals (S := fun _ => True) (fun _ _ => trivial) HX.out) HS0.out HB.out).mono ?_; rintro e w5 ⟨us5, L5, rfl, hO5, hN5, hL5, hb5⟩; rw [HO.out]; rw [HN.out] at hO5; obtain ⟨GA0, Gc0, -, GA1, Gc1, -, GA2, Gc2, -, GA3, Gc3, -, GA6, Gc6, -, GA7, Gc7, -, GA8, Gc8, -, -, rfl, -⟩ := TStore.vals_own hO5; have HO5 := hide hO5; have HN5 := hide hN5; have HL5 := hide hL5; clear hO5 hN5 hL5)
 refine wp_named2 fun wD hwD => ?_
 have hbD : Bel w5 wD := by rw [← hwD]; exact bl
 have SG := (show SB wD w5.heap.size (.slice GA0 y0.length Gc0) (.slice GA1 y1.length Gc1) (.slice GA2 y2.length Gc2) (.slice GA3 y3.length Gc3) (.string y4) (.int .i64 y5) (.slice GA6 y6.length Gc6) (.slice GA7 y7.length Gc7) (.slice GA8 y8.length Gc8) (.bool y9) (.int .i64 y10) (.int .i64 y11) (.int .i64 y12) from by rw [← hwD]; exact SB.new _ _)
 have hzD : wD.heap.size = w5.heap.size + 1 := by rw [← hwD]; simp
 clear hwD
 have hs5 := hb5.size
 have HLG := hide (show ∀ x, x ∈ L5 → wC.heap.size ≤ x ∧ x < w5.heap.size from fun x hx => ⟨HL5.out x hx, Dat.OwnVals.lt _ _ _ HO5.out x hx⟩)
 have hbCD := Bel.trans hb5 hbD
 have HXD := hide (HX.out.bel hbCD)
 have BXD := hide (BX.out.on hbCD)
 have HGD := hide (HO5.out.bel hbD)
 have NF := hide (show NwF w wD w.heap.size bW w5.heap.size (.slice A0 x0.length c0) (.slice A1 x1.length c1) (.slice A2 x2.length c2) (.int .i64 x3) (.slice WA0 y0.length Wc0) (.slice WA1 y1.length Wc1) (.slice WA2 y2.length Wc2) (.slice WA3 y3.length Wc3) (.string y4) (.int .i64 y5) (.slice WA6 y6.length Wc6) (.slice WA7 y7.length Wc7) (.slice WA8 y8.length Wc8) (.bool y9) (.int .i64 y10) (.int .i64 y11) (.int .i64 y12) (.slice GA0 y0.length Gc0) (.slice GA1 y1.length Gc1) (.slice GA2 y2.length Gc2) (.slice GA3 y3.length Gc3) (.string y4) (.int .i64 y5) (.slice GA6 y6.length Gc6) (.slice GA7 y7.length Gc7) (.slice GA8 y8.length Gc8) (.bool y9) (.int .i64 y10) (.int .i64 y11) (.int .i64 y12) L3 (TStore.mk y0 y1 y2 y3 y4 y5 y6 y7 y8 y9 y10 y11 y12).D from ⟨Bel.trans hbwC hbCD, PC.out.on hbCD, SC.out.on hbCD, SG, OC.out.bel hbCD⟩)
 clear hlX kX_0 kX_1 kX_2 kX_3
 have hGb : wC.heap.size ≤ w5.heap.size := hs5
 clear HO5 HL5 HX BX PC SC OC SG hb5 hbD hs5 hbCD hbwC
 generalize w5.heap.size = bG at NF hzD HLG hGb ⊢
 clear w5
 have pb := NF.out.sg
 obtain ⟨hlG, hfG, kG_0, kG_1, kG_2, kG_3, kG_4, kG_5, kG_6, kG_7, kG_8, kG_9, kG_10, kG_11, kG_12⟩ := pb
 have pb := NF.out.sw
 obtain ⟨hlW, hfW, kW_0, kW_1, kW_2, kW_3, kW_4, kW_5, kW_6, kW_7, kW_8, kW_9, kW_10, kW_11, kW_12⟩ := pb
 go_upto_region 10 with (go_at_call 8; refine (eqStore_any (TStore.mk y0 y1 y2 y3 y4 y5 y6 y7 y8 y9 y10 y11 y12) (fun _ => True) (fun _ => True) _ _ _ (Dat.OwnVals.vals (S := fun _ => True) (fun _ _ => trivial) HGD.out) (Dat.OwnVals.vals (S := fun _ => True) (fun _ _ => trivial) NF.out.ow)).mono ?_; rintro e w6 ⟨rfl, hb6⟩)
 clear hlG hfG kG_0 kG_1 kG_2 kG_3 kG_4 kG_5 kG_6 kG_7 kG_8 kG_9 kG_10 kG_11 kG_12
 clear hlW hfW kW_0 kW_1 kW_2 kW_3 kW_4 kW_5 kW_6 kW_7 kW_8 kW_9 kW_10 kW_11 kW_12
 refine wp_named2 fun wE hwE => ?_
 have hbDE : Bel wD wE := by rw [← hwE]; exact bl
 clear hwE
 clear hb6
 have NE := hide (NF.out.on hbDE)
 have HXE := hide (HXD.out.bel hbDE)
 have BXE := hide (BXD.out.on hbDE)
 have HGE := hide (HGD.out.bel hbDE)
 have hzE := hbDE.size
 clear NF HXD BXD HGD hbDE
 have pb := NE.out.pa
 obtain ⟨hlA, kA_0, kA_1, kA_2, kA_3⟩ := pb
 have pb := BXE.out
 obtain ⟨hlX, kX_0, kX_1, kX_2, kX_3⟩ := pb
 refine wp_region_held_drew (S := fun w' => w'.cell? ⟨w.heap.size, 0, none⟩ = some (.slice A0 x0.length c0) ∧ w'.cell? ⟨w.heap.size, 1, none⟩ = some (.slice A1 x1.length c1) ∧ w'.cell? ⟨w.heap.size, 2, none⟩ = some (.slice A2 x2.length c2) ∧ w'.cell? ⟨w.heap.size, 3, none⟩ = some (.int .i64 x3) ∧ w'.cell? ⟨bX, 0, none⟩ = some (.slice XA0 x0.length Xc0) ∧ w'.cell? ⟨bX, 1, none⟩ = some (.slice XA1 x1.length Xc1) ∧ w'.cell? ⟨bX, 2, none⟩ = some (.slice XA2 x2.length Xc2) ∧ w'.cell? ⟨bX, 3, none⟩ = some (.int .i64 x3)) (by kernel_rfl) ?_ (fun hHeld => ?_)
 ·
  exact ⟨kA_0, kA_1, kA_2, kA_3, kX_0, kX_1, kX_2, kX_3⟩
 refine tkI 0 ?_
 refine tkI 1 ?_
 refine wpAnyH_ready (rs := [2]) (by kernel_rfl) (by simp) ?_
 refine AllReadyH.cons (o := _) rfl (fun K hK => ?_) AllReadyH.nil
 go_simp
 clear hHeld
 go_at_call 6
 refine (toProgram_any _ _ _ _ (Dat.HoldVals.bel (Bel.trans NE.out.bel bl) HV.out) HS0.out).mono ?_
 rintro e w7 ⟨vs7, rfl, hv7, hb7⟩
 obtain ⟨i7A0, i7c0, i7A1, i7c1, i7A2, i7c2, rfl, -⟩ := TProgram.vals hv7
 have HP7 := hide hv7
 clear hv7
 have hbE7 : Bel wE w7 := Bel.trans (Bel.drew (Bel.refl _)) hb7
 refine hK.out _ _ ?_ (fun hHeld => ?_)
 ·
  exact ⟨(hbE7.box _ hlA _).trans kA_0, (hbE7.box _ hlA _).trans kA_1, (hbE7.box _ hlA _).trans kA_2, (hbE7.box _ hlA _).trans kA_3, (hbE7.box _ hlX _).trans kX_0, (hbE7.box _ hlX _).trans kX_1, (hbE7.box _ hlX _).trans kX_2, (hbE7.box _ hlX _).trans kX_3⟩
 clear hK K
 (try simp only [Act.put, List.setIfInBounds_toArray, List.set_cons_zero, List.set_cons_succ, List.getElem_toArray, List.getElem_cons_zero, List.getElem_cons_succ])
 refine wpAnyH_ready (rs := [3]) (by kernel_rfl) (by simp) ?_
 refine AllReadyH.cons (o := _) rfl (fun K hK => ?_) AllReadyH.nil
 go_simp
 clear hHeld
 go_at_call 9
 refine (eqProgram_any (TProgram.mk x0 x1 x2 x3) (fun _ => True) _ _ _ _ (Dat.OwnVals.vals (S := fun _ => True) (fun _ _ => trivial) (HXE.out.bel hbE7)) HP7.out).mono ?_
 rintro e w8 ⟨rfl, hb8⟩
 have hbE8 : Bel wE w8 := Bel.trans hbE7 hb8
 refine hK.out _ _ ?_ (fun hHeld => ?_)
 ·
  exact ⟨(hbE8.box _ hlA _).trans kA_0, (hbE8.box _ hlA _).trans kA_1, (hbE8.box _ hlA _).trans kA_2, (hbE8.box _ hlA _).trans kA_3, (hbE8.box _ hlX _).trans kX_0, (hbE8.box _ hlX _).trans kX_1, (hbE8.box _ hlX _).trans kX_2, (hbE8.box _ hlX _).trans kX_3⟩
 clear hK K
 (try simp only [Act.put, List.setIfInBounds_toArray, List.set_cons_zero, List.set_cons_succ, List.getElem_toArray, List.getElem_cons_zero, List.getElem_cons_succ])
 refine tkI 4 ?_
 refine wpAnyH_done (by kernel_rfl) ?_ _
 clear hHeld HP7 hb7 hb8 hbE7
 go_upto_region 13 with (fail)
 refine wp_named2 fun wF hwF => ?_
 have hbEF : Bel wE wF := by rw [← hwF]; exact bl
 clear hwF
 clear hbE8
 clear hlA kA_0 kA_1 kA_2 kA_3
 clear hlX kX_0 kX_1 kX_2 kX_3
 have NF := hide (NE.out.on hbEF)
 have HXF := hide (HXE.out.bel hbEF)
 have BXF := hide (BXE.out.on hbEF)
 have HGF := hide (HGE.out.bel hbEF)
 have hzF := hbEF.size
 clear NE HXE BXE HGE hbEF
 have pb := BXF.out
 obtain ⟨hlX, kX_0, kX_1, kX_2, kX_3⟩ := pb
 go_upto_region 14 with (go_at_call 10; refine (markProgram_any (TProgram.mk x0 x1 x2 x3) LX _ _ 1 HXF.out HNX.out (by omega) HCN.out).mono ?_; rintro e w9 ⟨⟨k9, hk9, rfl⟩, ho9⟩)
 clear hlX kX_0 kX_1 kX_2 kX_3
 have dk9 : decide (k9 < 0) = false := by simp; omega
 have N9 := hide (NF.out.off ho9 (fun x hx h => by have := HLX.out x h; omega) (fun h => by have := HLX.out _ h; omega) (fun h => by have := HLX.out _ h; omega) (fun h => by have := HLX.out _ h; omega) (fun x hx h => by have h1 := HLW.out x hx; have h2 := HLX.out x h; omega))
 have HG9 := hide (HGF.out.offS ho9 (fun x hx h => by have h1 := HLG.out x hx; have h2 := HLX.out x h; omega))
 have hz9 := ho9.size
 clear NF HGF HXF BXF HNX ho9
 refine wp_named2 fun wG hwG => ?_
 have hb9G : Bel w9 wG := by rw [← hwG]; exact bl
 clear hwG
 have NG := hide (N9.out.on hb9G)
 have HGG := hide (HG9.out.bel hb9G)
 have hzG := hb9G.size
 clear N9 HG9 hb9G
 have pb := NG.out.sg
 obtain ⟨hlG, hfG, kG_0, kG_1, kG_2, kG_3, kG_4, kG_5, kG_6, kG_7, kG_8, kG_9, kG_10, kG_11, kG_12⟩ := pb
 have pb := NG.out.sw
 obtain ⟨hlW, hfW, kW_0, kW_1, kW_2, kW_3, kW_4, kW_5, kW_6, kW_7, kW_8, kW_9, kW_10, kW_11, kW_12⟩ := pb
 go_upto_region 17 with (go_at_call 8; refine (eqStore_any (TStore.mk y0 y1 y2 y3 y4 y5 y6 y7 y8 y9 y10 y11 y12) (fun _ => True) (fun _ => True) _ _ _ (Dat.OwnVals.vals (S := fun _ => True) (fun _ _ => trivial) HGG.out) (Dat.OwnVals.vals (S := fun _ => True) (fun _ _ => trivial) NG.out.ow)).mono ?_; rintro e w10 ⟨rfl, hb10⟩)
 clear hlG hfG kG_0 kG_1 kG_2 kG_3 kG_4 kG_5 kG_6 kG_7 kG_8 kG_9 kG_10 kG_11 kG_12
 clear hlW hfW kW_0 kW_1 kW_2 kW_3 kW_4 kW_5 kW_6 kW_7 kW_8 kW_9 kW_10 kW_11 kW_12
 refine wp_named2 fun wH hwH => ?_
 have hbGH : Bel wG wH := by rw [← hwH]; exact bl
 clear hwH
 clear hb10
 have NH := hide (NG.out.on hbGH)
 have HGH := hide (HGG.out.bel hbGH)
 have hzH := hbGH.size
 clear NG HGG hbGH
 have pb := NH.out.sg
 obtain ⟨hlG, hfG, kG_0, kG_1, kG_2, kG_3, kG_4, kG_5, kG_6, kG_7, kG_8, kG_9, kG_10, kG_11, kG_12⟩ := pb
 go_upto_region 18 with (go_at_call 11; refine (markStoreW_any (TStore.mk y0 y1 y2 y3 y4 y5 y6 y7 y8 y9 y10 y11 y12) L5 _ _ 1 HGH.out HN5.out (by omega) HCL.out).mono ?_; rintro e w11 ⟨rfl, hM, ho11⟩; rw [HQ.out]; have HM11 := hide hM; clear hM)
 clear hlG hfG kG_0 kG_1 kG_2 kG_3 kG_4 kG_5 kG_6 kG_7 kG_8 kG_9 kG_10 kG_11 kG_12
 have N11 := hide (NH.out.off ho11 (fun x hx h => by have := HLG.out x h; omega) (fun h => by have := HLG.out _ h; omega) (fun h => by have := HLG.out _ h; omega) (fun h => by have := HLG.out _ h; omega) (fun x hx h => by have h1 := HLW.out x hx; have h2 := HLG.out x h; omega))
 have hz11 := ho11.size
 clear NH HGH HN5 ho11
 refine wp_named2 fun wI hwI => ?_
 have hb11I : Bel w11 wI := by rw [← hwI]; exact bl
 clear hwI
 have NI := hide (N11.out.on hb11I)
 have HMI := hide (TStore.OwnM.bel hb11I HM11.out)
 have hzI := hb11I.size
 clear N11 HM11 hb11I
 have dq0 : decide ((1 : Int) + (q : Int) < 0) = false := by simp; omega
 have dq1 : ((1 : Int) + (q : Int) != 1 + (q : Int)) = false := by simp
 have pb := NI.out.sg
 obtain ⟨hlG, hfG, kG_0, kG_1, kG_2, kG_3, kG_4, kG_5, kG_6, kG_7, kG_8, kG_9, kG_10, kG_11, kG_12⟩ := pb
 go_upto_region 24 with (go_at_call 12; refine (heldStoreW_any (TStore.mk y0 y1 y2 y3 y4 y5 y6 y7 y8 y9 y10 y11 y12) L5 _ _ 1 (TStore.OwnM.bel bl HMI.out) (by omega) HCL.out).mono ?_; rintro e w12 ⟨rfl, hb12⟩; rw [HQ.out])
 clear hlG hfG kG_0 kG_1 kG_2 kG_3 kG_4 kG_5 kG_6 kG_7 kG_8 kG_9 kG_10 kG_11 kG_12
 refine wp_named2 fun wJ hwJ => ?_
 have hbIJ : Bel wI wJ := by rw [← hwJ]; exact bl
 clear hwJ
 clear hb12
 have NJ := hide (NI.out.on hbIJ)
 have HMJ := hide (TStore.OwnM.bel hbIJ HMI.out)
 have hzJ := hbIJ.size
 clear NI HMI hbIJ
 have hbwJ := NJ.out.bel
 have pb := NJ.out.pa
 obtain ⟨hlA, kA_0, kA_1, kA_2, kA_3⟩ := pb
 go_upto_region 25 with (first
   | (go_at_call 6; refine (toProgram_any _ _ _ _ (Dat.HoldVals.bel (Bel.trans hbwJ bl) HV.out) HS0.out).mono ?_; rintro e w13 ⟨vs13, rfl, hv13, hb13⟩; obtain ⟨i13A0, i13c0, i13A1, i13c1, i13A2, i13c2, rfl, -⟩ := TProgram.vals hv13; have HP13 := hide hv13; clear hv13)
   | (go_at_call 7; refine (implNew_any (TProgram.mk x0 x1 x2 x3) b tr _ _ _ (HT.out.on (Bel.trans hbwJ bl)) (Dat.HoldVals.bel bl HP13.out) HS0.out HB.out).mono ?_; rintro e w14 ⟨us14, L14, rfl, hO14, hN14, hL14, hb14⟩; rw [HO.out]; rw [HN.out] at hO14; obtain ⟨HA0, Hc0, -, HA1, Hc1, -, HA2, Hc2, -, HA3, Hc3, -, HA6, Hc6, -, HA7, Hc7, -, HA8, Hc8, -, -, rfl, -⟩ := TStore.vals_own hO14; have HO14 := hide hO14; have HN14 := hide hN14; have HL14 := hide hL14; clear hO14 hN14 hL14))
 clear hlA kA_0 kA_1 kA_2 kA_3
 refine wp_named2 fun wK hwK => ?_
 have hbK : Bel w14 wK := by rw [← hwK]; exact bl
 have SH := hide (show SB wK w14.heap.size (.slice HA0 y0.length Hc0) (.slice HA1 y1.length Hc1) (.slice HA2 y2.length Hc2) (.slice HA3 y3.length Hc3) (.string y4) (.int .i64 y5) (.slice HA6 y6.length Hc6) (.slice HA7 y7.length Hc7) (.slice HA8 y8.length Hc8) (.bool y9) (.int .i64 y10) (.int .i64 y11) (.int .i64 y12) from by rw [← hwK]; exact SB.new _ _)
 clear hwK
 have hbJK := Bel.trans hb13 (Bel.trans hb14 hbK)
 have NK := hide (NJ.out.on hbJK)
 have HMK := hide (TStore.OwnM.bel hbJK HMJ.out)
 have HHK := hide (HO14.out.bel hbK)
 generalize w14.heap.size = bH at SH ⊢
 clear NJ HMJ HO14 HL14 HN14 HP13 hbwJ hb13 hb14 hbK hbJK w14
 have pb := SH.out
 obtain ⟨hlH, hfH, kH_0, kH_1, kH_2, kH_3, kH_4, kH_5, kH_6, kH_7, kH_8, kH_9, kH_10, kH_11, kH_12⟩ := pb
 have pb := NK.out.sw
 obtain ⟨hlW, hfW, kW_0, kW_1, kW_2, kW_3, kW_4, kW_5, kW_6, kW_7, kW_8, kW_9, kW_10, kW_11, kW_12⟩ := pb
 go_upto_region 28 with (go_at_call 8; refine (eqStore_any (TStore.mk y0 y1 y2 y3 y4 y5 y6 y7 y8 y9 y10 y11 y12) (fun _ => True) (fun _ => True) _ _ _ (Dat.OwnVals.vals (S := fun _ => True) (fun _ _ => trivial) HHK.out) (Dat.OwnVals.vals (S := fun _ => True) (fun _ _ => trivial) NK.out.ow)).mono ?_; rintro e w15 ⟨rfl, hb15⟩)
 clear hlH hfH kH_0 kH_1 kH_2 kH_3 kH_4 kH_5 kH_6 kH_7 kH_8 kH_9 kH_10 kH_11 kH_12
 clear hlW hfW kW_0 kW_1 kW_2 kW_3 kW_4 kW_5 kW_6 kW_7 kW_8 kW_9 kW_10 kW_11 kW_12
 refine wp_named2 fun wL hwL => ?_
 have hbKL : Bel wK wL := by rw [← hwL]; exact bl
 clear hwL
 clear hb15
 have NL := hide (NK.out.on hbKL)
 have HML := hide (TStore.OwnM.bel hbKL HMK.out)
 clear NK HMK hbKL
 have pb := NL.out.sg
 obtain ⟨hlG, hfG, kG_0, kG_1, kG_2, kG_3, kG_4, kG_5, kG_6, kG_7, kG_8, kG_9, kG_10, kG_11, kG_12⟩ := pb
 go_wp2_with (go_at_call 12; refine (heldStoreW_any (TStore.mk y0 y1 y2 y3 y4 y5 y6 y7 y8 y9 y10 y11 y12) L5 _ _ 1 (TStore.OwnM.bel bl HML.out) (by omega) HCL.out).mono ?_; rintro e w16 ⟨rfl, hb16⟩; rw [HQ.out])
 all_goals
  go_returns
  exact ⟨rfl, Bel.trans NL.out.bel bl⟩
end Go.Proofs.YtgofbnmablgedaaGreatDoor
