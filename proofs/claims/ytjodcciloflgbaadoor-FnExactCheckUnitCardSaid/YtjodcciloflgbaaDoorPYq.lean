/- The walk of FnExactCheckUnit. -/
import Derived.Test.YtjodcciloflgbaaDoorPYs
import Derived.Test.YtjodcciloflgbaaDoorPHUnit
import Derived.Deep.RegionHeld3
namespace Go.Proofs.YtjodcciloflgbaaDoor
set_option linter.unusedVariables false
set_option linter.unusedSimpArgs false
set_option maxRecDepth 100000
open Go.RowKit
def chkOfT : TUnit → Int × Int
 | ⟨R, G, P⟩ => chkU R G P
abbrev ChkL (f : FuncId) : Prop := ∀ (t : TUnit) (w : World) (_htab : Sp w) (S : Nat → Prop) (vs : List Value) (_h : Dat.HoldVals w S t.D vs) (_hw : Dat.wtL t.D ≤ 1048576),
  Calls Tryd.prog f #[.agg vs.toArray] w fun e w' => e = .returned (.tuple #[.int .i64 (chkOfT t).1, .int .i64 (chkOfT t).2]) ∧ Bel w w'
set_option maxHeartbeats 2000000 in
theorem FnExactCheckUnit_of (hSpec : ChkL 11) (hImpl : ChkL 12) (t0 : TUnit) (vs0 : List Value) (w : World) (hv0 : Dat.HoldVals w (fun _ => True) t0.D vs0) (htab : Sp w) :
  Calls Tryd.prog 4 #[.agg vs0.toArray] w fun e w' => e = .returned (.bool true) ∧ Bel w w' := by
 have HSPEC := hide hSpec
 have HIMPL := hide hImpl
 clear hSpec hImpl
 have HTab := hide htab
 clear htab
 obtain ⟨x0_0, x0_1, x0_2⟩ := t0
 obtain ⟨A0_0_0, c0_0_0, A0_0_1, c0_0_1, A0_0_2, c0_0_2, rfl, -⟩ := TUnit.vals hv0
 have HV0 := hide hv0
 clear hv0
 obtain ⟨m0, hm0⟩ : ∃ m : Nat, m = Dat.wtL (TUnit.mk x0_0 x0_1 x0_2).D := ⟨_, rfl⟩
 rcases Int.lt_or_le ((1048576 : Int)) (m0 : Int) with hq0 | hq0
 ·
  have HZ0 := hide (show szL (Dat.wtL (TUnit.mk x0_0 x0_1 x0_2).D) ((1048576 : Int)) = -1 from szL_no (by omega))
  clear hq0 hm0
  go_enter Tryd.func4, Tryd.ntmps4
  go_wp2_with (fail)
  refine (szUnit_any _ _ _ _ _ (Dat.HoldVals.bel bl HV0.out) (by omega) (by omega)).mono ?_
  rintro e w1 ⟨rfl, hb1⟩
  rw [HZ0.out]
  (have hz1 := hb1.sz; obtain ⟨hk1_0, hf1_0, hl1_0, hn1_0⟩ := hb1.lay (w.heap.size))
  go_wp2_with (fail)
  all_goals
   go_returns
   exact ⟨rfl, bl⟩
 have HZ0 := hide (show szL (Dat.wtL (TUnit.mk x0_0 x0_1 x0_2).D) ((1048576 : Int)) = (1048576 : Int) - (m0 : Int) from by rw [szL_yes (by omega), hm0])
 have HS0 : Hid (Dat.wtL (TUnit.mk x0_0 x0_1 x0_2).D ≤ 1048576) := by show _ ≤ _; omega
 have hlo0 : 0 ≤ (1048576 : Int) - (m0 : Int) := by omega
 have hle0 : (1048576 : Int) - (m0 : Int) ≤ 1048576 := by omega
 clear hm0
 clear hq0
 go_enter Tryd.func4, Tryd.ntmps4
 go_wp2_with (fail)
 refine (szUnit_any _ _ _ _ _ (Dat.HoldVals.bel bl HV0.out) (by omega) (by omega)).mono ?_
 rintro e w1 ⟨rfl, hb1⟩
 rw [HZ0.out]
 (have hz1 := hb1.sz; obtain ⟨hk1_0, hf1_0, hl1_0, hn1_0⟩ := hb1.lay (w.heap.size))
 go_wp2_with (fail)
 refine (toUnit_any _ _ _ _ (Dat.HoldVals.bel bl HV0.out) HS0.out).mono ?_
 rintro e wa0 ⟨vsa0, rfl, hva0, hba0⟩; obtain ⟨Aa0_0, ca0_0, Aa0_1, ca0_1, Aa0_2, ca0_2, rfl, -⟩ := TUnit.vals hva0; have HVa0 := hide hva0; clear hva0; (have hza0 := hba0.sz; obtain ⟨hka0_0, hfa0_0, hla0_0, hna0_0⟩ := hba0.lay (w.heap.size))
 go_wp2_with (fail)
 refine (HSPEC.out (TUnit.mk x0_0 x0_1 x0_2) _ (HTab.out.on bl) _ _ (Dat.HoldVals.bel bl HVa0.out) HS0.out).mono ?_
 rintro e wf ⟨rfl, hbf⟩
 (have hzf := hbf.sz; obtain ⟨hkf_0, hff_0, hlf_0, hnf_0⟩ := hbf.lay (w.heap.size))
 go_wp2_with (fail)
 refine (toUnit_any _ _ _ _ (Dat.HoldVals.bel bl HV0.out) HS0.out).mono ?_
 rintro e wb0 ⟨vsb0, rfl, hvb0, hbb0⟩; obtain ⟨Ab0_0, cb0_0, Ab0_1, cb0_1, Ab0_2, cb0_2, rfl, -⟩ := TUnit.vals hvb0; have HVb0 := hide hvb0; clear hvb0; (have hzb0 := hbb0.sz; obtain ⟨hkb0_0, hfb0_0, hlb0_0, hnb0_0⟩ := hbb0.lay (w.heap.size))
 go_wp2_with (fail)
 refine (HIMPL.out (TUnit.mk x0_0 x0_1 x0_2) _ (HTab.out.on bl) _ _ (Dat.HoldVals.bel bl HVb0.out) HS0.out).mono ?_
 rintro e wg ⟨rfl, hbg⟩
 (have hzg := hbg.sz; obtain ⟨hkg_0, hfg_0, hlg_0, hng_0⟩ := hbg.lay (w.heap.size); obtain ⟨hkg_1, hfg_1, hlg_1, hng_1⟩ := hbg.lay (wb0.heap.size))
 go_wp2_with (fail)
 go_region_held3 (fun w' => w'.cell? ⟨w.heap.size, 0, none⟩ = some (.slice A0_0_0 x0_0.length c0_0_0) ∧ w'.cell? ⟨w.heap.size, 1, none⟩ = some (.slice A0_0_1 x0_1.length c0_0_1) ∧ w'.cell? ⟨w.heap.size, 2, none⟩ = some (.slice A0_0_2 x0_2.length c0_0_2) ∧ w'.cell? ⟨wb0.heap.size, 0, none⟩ = some (.slice Ab0_0 x0_0.length cb0_0) ∧ w'.cell? ⟨wb0.heap.size, 1, none⟩ = some (.slice Ab0_1 x0_1.length cb0_1) ∧ w'.cell? ⟨wb0.heap.size, 2, none⟩ = some (.slice Ab0_2 x0_2.length cb0_2)) (go_keep) (first
   | (go_at_call 8; refine (toUnit_any _ _ _ _ (Dat.HoldVals.bel bl HV0.out) HS0.out).mono ?_; rintro e wd0 ⟨vsd0, rfl, hvd0, hbd0⟩; obtain ⟨Ad0_0, cd0_0, Ad0_1, cd0_1, Ad0_2, cd0_2, rfl, -⟩ := TUnit.vals hvd0; have HVd0 := hide hvd0; clear hvd0; (have hzd0 := hbd0.sz; obtain ⟨hkd0_0, hfd0_0, hld0_0, hnd0_0⟩ := hbd0.lay (w.heap.size); obtain ⟨hkd0_1, hfd0_1, hld0_1, hnd0_1⟩ := hbd0.lay (wb0.heap.size)))
   | (go_at_call 10; refine (eqUnit_any _ _ _ _ _ _ (Dat.HoldVals.bel bl HVb0.out) (Dat.HoldVals.bel bl HVd0.out)).mono ?_; rintro e we0 ⟨rfl, hbe0⟩; (have hze0 := hbe0.sz; obtain ⟨hke0_0, hfe0_0, hle0_0, hne0_0⟩ := hbe0.lay (w.heap.size); obtain ⟨hke0_1, hfe0_1, hle0_1, hne0_1⟩ := hbe0.lay (wb0.heap.size))))
 go_wp2_with (fail)
 all_goals
  go_returns
  exact ⟨rfl, bl⟩
end Go.Proofs.YtjodcciloflgbaaDoor
