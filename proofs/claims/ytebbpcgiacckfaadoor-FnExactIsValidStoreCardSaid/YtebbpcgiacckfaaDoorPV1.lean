/- Is a store valid: both sides. -/
import Derived.Test.YtebbpcgiacckfaaDoorPS8
import Derived.Test.YtebbpcgiacckfaaDoorPS9
import Derived.Test.YtebbpcgiacckfaaDoorPHStore
import Derived.Deep.RegionHeld3
namespace Go.Proofs.YtebbpcgiacckfaaDoor
set_option linter.unusedVariables false
set_option linter.unusedSimpArgs false
set_option maxRecDepth 100000
open Go.RowKit
theorem specIsValidStore_law (t : TStore) (w : World) (_ : Sp w) (S : Nat → Prop) (vs : List Value) (hv : Dat.HoldVals w S t.D vs) (_ : Dat.wtL t.D ≤ 1048576) :
  Calls Tryd.prog 8 #[.agg vs.toArray] w fun e w' => e = .returned (.bool (validB t)) ∧ Bel w w' := specValid_any t S w vs hv
theorem implIsValidStore_law (t : TStore) (w : World) (htab : Sp w) (S : Nat → Prop) (vs : List Value) (hv : Dat.HoldVals w S t.D vs) (_ : Dat.wtL t.D ≤ 1048576) :
  Calls Tryd.prog 10 #[.agg vs.toArray] w fun e w' => e = .returned (.bool (validB t)) ∧ Bel w w' := implValid_any t S w vs htab hv
end Go.Proofs.YtebbpcgiacckfaaDoor
namespace Go.Proofs.YtebbpcgiacckfaaDoor
set_option linter.unusedVariables false
set_option linter.unusedSimpArgs false
set_option maxRecDepth 100000
open Go.RowKit
set_option maxHeartbeats 2000000 in
theorem FnExactIsValidStore_walk (t0 : TStore) (vs0 : List Value) (w : World) (hv0 : Dat.HoldVals w (fun _ => True) t0.D vs0) (htab : Sp w) :
  Calls Tryd.prog 3 #[.agg vs0.toArray] w fun e w' => e = .returned (.bool true) ∧ Bel w w' := by
 have HTab := hide htab
 clear htab
 obtain ⟨x0_0, x0_1, x0_2, x0_3, x0_4, x0_5, x0_6, x0_7, x0_8, x0_9, x0_10, x0_11, x0_12⟩ := t0
 obtain ⟨A0_0_0, c0_0_0, A0_0_1, c0_0_1, A0_0_2, c0_0_2, A0_0_3, c0_0_3, A0_0_6, c0_0_6, A0_0_7, c0_0_7, A0_0_8, c0_0_8, rfl, -⟩ := TStore.vals hv0
 have HV0 := hide hv0
 clear hv0
 obtain ⟨m0, hm0⟩ : ∃ m : Nat, m = Dat.wtL (TStore.mk x0_0 x0_1 x0_2 x0_3 x0_4 x0_5 x0_6 x0_7 x0_8 x0_9 x0_10 x0_11 x0_12).D := ⟨_, rfl⟩
 rcases Int.lt_or_le ((1048576 : Int)) (m0 : Int) with hq0 | hq0
 ·
  have HZ0 := hide (show szL (Dat.wtL (TStore.mk x0_0 x0_1 x0_2 x0_3 x0_4 x0_5 x0_6 x0_7 x0_8 x0_9 x0_10 x0_11 x0_12).D) ((1048576 : Int)) = -1 from szL_no (by omega))
  clear hq0 hm0
  go_enter Tryd.func3, Tryd.ntmps3
  go_wp2_with (fail)
  refine (szStore_any _ _ _ _ _ (Dat.HoldVals.bel bl HV0.out) (by omega) (by omega)).mono ?_
  rintro e w1 ⟨rfl, hb1⟩
  rw [HZ0.out]
  (have hz1 := hb1.sz; obtain ⟨hk1_0, hf1_0, hl1_0, hn1_0⟩ := hb1.lay (w.heap.size))
  go_wp2_with (fail)
  all_goals
   go_returns
   exact ⟨rfl, bl⟩
 have HZ0 := hide (show szL (Dat.wtL (TStore.mk x0_0 x0_1 x0_2 x0_3 x0_4 x0_5 x0_6 x0_7 x0_8 x0_9 x0_10 x0_11 x0_12).D) ((1048576 : Int)) = (1048576 : Int) - (m0 : Int) from by rw [szL_yes (by omega), hm0])
 have HS0 : Hid (Dat.wtL (TStore.mk x0_0 x0_1 x0_2 x0_3 x0_4 x0_5 x0_6 x0_7 x0_8 x0_9 x0_10 x0_11 x0_12).D ≤ 1048576) := by show _ ≤ _; omega
 have hlo0 : 0 ≤ (1048576 : Int) - (m0 : Int) := by omega
 have hle0 : (1048576 : Int) - (m0 : Int) ≤ 1048576 := by omega
 clear hm0
 clear hq0
 go_enter Tryd.func3, Tryd.ntmps3
 go_wp2_with (fail)
 refine (szStore_any _ _ _ _ _ (Dat.HoldVals.bel bl HV0.out) (by omega) (by omega)).mono ?_
 rintro e w1 ⟨rfl, hb1⟩
 rw [HZ0.out]
 (have hz1 := hb1.sz; obtain ⟨hk1_0, hf1_0, hl1_0, hn1_0⟩ := hb1.lay (w.heap.size))
 go_wp2_with (fail)
 refine (toStore_any _ _ _ _ (Dat.HoldVals.bel bl HV0.out) HS0.out).mono ?_
 rintro e wa0 ⟨vsa0, rfl, hva0, hba0⟩; obtain ⟨Aa0_0, ca0_0, Aa0_1, ca0_1, Aa0_2, ca0_2, Aa0_3, ca0_3, Aa0_6, ca0_6, Aa0_7, ca0_7, Aa0_8, ca0_8, rfl, -⟩ := TStore.vals hva0; have HVa0 := hide hva0; clear hva0; (have hza0 := hba0.sz; obtain ⟨hka0_0, hfa0_0, hla0_0, hna0_0⟩ := hba0.lay (w.heap.size))
 go_wp2_with (fail)
 refine (specIsValidStore_law (TStore.mk x0_0 x0_1 x0_2 x0_3 x0_4 x0_5 x0_6 x0_7 x0_8 x0_9 x0_10 x0_11 x0_12) _ (HTab.out.on bl) _ _ (Dat.HoldVals.bel bl HVa0.out) HS0.out).mono ?_
 rintro e wf ⟨rfl, hbf⟩
 (have hzf := hbf.sz; obtain ⟨hkf_0, hff_0, hlf_0, hnf_0⟩ := hbf.lay (w.heap.size))
 go_wp2_with (fail)
 refine (toStore_any _ _ _ _ (Dat.HoldVals.bel bl HV0.out) HS0.out).mono ?_
 rintro e wb0 ⟨vsb0, rfl, hvb0, hbb0⟩; obtain ⟨Ab0_0, cb0_0, Ab0_1, cb0_1, Ab0_2, cb0_2, Ab0_3, cb0_3, Ab0_6, cb0_6, Ab0_7, cb0_7, Ab0_8, cb0_8, rfl, -⟩ := TStore.vals hvb0; have HVb0 := hide hvb0; clear hvb0; (have hzb0 := hbb0.sz; obtain ⟨hkb0_0, hfb0_0, hlb0_0, hnb0_0⟩ := hbb0.lay (w.heap.size))
 go_wp2_with (fail)
 refine (implIsValidStore_law (TStore.mk x0_0 x0_1 x0_2 x0_3 x0_4 x0_5 x0_6 x0_7 x0_8 x0_9 x0_10 x0_11 x0_12) _ (HTab.out.on bl) _ _ (Dat.HoldVals.bel bl HVb0.out) HS0.out).mono ?_
 rintro e wg ⟨rfl, hbg⟩
 (have hzg := hbg.sz; obtain ⟨hkg_0, hfg_0, hlg_0, hng_0⟩ := hbg.lay (w.heap.size); obtain ⟨hkg_1, hfg_1, hlg_1, hng_1⟩ := hbg.lay (wb0.heap.size))
 go_wp2_with (fail)
 go_region_held3 (fun w' => w'.cell? ⟨w.heap.size, 0, none⟩ = some (.slice A0_0_0 x0_0.length c0_0_0) ∧ w'.cell? ⟨w.heap.size, 1, none⟩ = some (.slice A0_0_1 x0_1.length c0_0_1) ∧ w'.cell? ⟨w.heap.size, 2, none⟩ = some (.slice A0_0_2 x0_2.length c0_0_2) ∧ w'.cell? ⟨w.heap.size, 3, none⟩ = some (.slice A0_0_3 x0_3.length c0_0_3) ∧ w'.cell? ⟨w.heap.size, 4, none⟩ = some (.string x0_4) ∧ w'.cell? ⟨w.heap.size, 5, none⟩ = some (.int .i64 x0_5) ∧ w'.cell? ⟨w.heap.size, 6, none⟩ = some (.slice A0_0_6 x0_6.length c0_0_6) ∧ w'.cell? ⟨w.heap.size, 7, none⟩ = some (.slice A0_0_7 x0_7.length c0_0_7) ∧ w'.cell? ⟨w.heap.size, 8, none⟩ = some (.slice A0_0_8 x0_8.length c0_0_8) ∧ w'.cell? ⟨w.heap.size, 9, none⟩ = some (.bool x0_9) ∧ w'.cell? ⟨w.heap.size, 10, none⟩ = some (.int .i64 x0_10) ∧ w'.cell? ⟨w.heap.size, 11, none⟩ = some (.int .i64 x0_11) ∧ w'.cell? ⟨w.heap.size, 12, none⟩ = some (.int .i64 x0_12) ∧ w'.cell? ⟨wb0.heap.size, 0, none⟩ = some (.slice Ab0_0 x0_0.length cb0_0) ∧ w'.cell? ⟨wb0.heap.size, 1, none⟩ = some (.slice Ab0_1 x0_1.length cb0_1) ∧ w'.cell? ⟨wb0.heap.size, 2, none⟩ = some (.slice Ab0_2 x0_2.length cb0_2) ∧ w'.cell? ⟨wb0.heap.size, 3, none⟩ = some (.slice Ab0_3 x0_3.length cb0_3) ∧ w'.cell? ⟨wb0.heap.size, 4, none⟩ = some (.string x0_4) ∧ w'.cell? ⟨wb0.heap.size, 5, none⟩ = some (.int .i64 x0_5) ∧ w'.cell? ⟨wb0.heap.size, 6, none⟩ = some (.slice Ab0_6 x0_6.length cb0_6) ∧ w'.cell? ⟨wb0.heap.size, 7, none⟩ = some (.slice Ab0_7 x0_7.length cb0_7) ∧ w'.cell? ⟨wb0.heap.size, 8, none⟩ = some (.slice Ab0_8 x0_8.length cb0_8) ∧ w'.cell? ⟨wb0.heap.size, 9, none⟩ = some (.bool x0_9) ∧ w'.cell? ⟨wb0.heap.size, 10, none⟩ = some (.int .i64 x0_10) ∧ w'.cell? ⟨wb0.heap.size, 11, none⟩ = some (.int .i64 x0_11) ∧ w'.cell? ⟨wb0.heap.size, 12, none⟩ = some (.int .i64 x0_12)) (go_keep) (first
   | (go_at_call 9; refine (toStore_any _ _ _ _ (Dat.HoldVals.bel bl HV0.out) HS0.out).mono ?_; rintro e wd0 ⟨vsd0, rfl, hvd0, hbd0⟩; obtain ⟨Ad0_0, cd0_0, Ad0_1, cd0_1, Ad0_2, cd0_2, Ad0_3, cd0_3, Ad0_6, cd0_6, Ad0_7, cd0_7, Ad0_8, cd0_8, rfl, -⟩ := TStore.vals hvd0; have HVd0 := hide hvd0; clear hvd0; (have hzd0 := hbd0.sz; obtain ⟨hkd0_0, hfd0_0, hld0_0, hnd0_0⟩ := hbd0.lay (w.heap.size); obtain ⟨hkd0_1, hfd0_1, hld0_1, hnd0_1⟩ := hbd0.lay (wb0.heap.size)))
   | (go_at_call 11; refine (eqStore_any _ _ _ _ _ _ (Dat.HoldVals.bel bl HVb0.out) (Dat.HoldVals.bel bl HVd0.out)).mono ?_; rintro e we0 ⟨rfl, hbe0⟩; (have hze0 := hbe0.sz; obtain ⟨hke0_0, hfe0_0, hle0_0, hne0_0⟩ := hbe0.lay (w.heap.size); obtain ⟨hke0_1, hfe0_1, hle0_1, hne0_1⟩ := hbe0.lay (wb0.heap.size))))
 go_wp2_with (fail)
 all_goals
  go_returns
  exact ⟨rfl, bl⟩
end Go.Proofs.YtebbpcgiacckfaaDoor
