/- The walk of FnExactFormatCore. -/
import Derived.Test.YtpcimcamjlbagaaDoorP27
import Derived.Deep.RegionHeld3
namespace Go.Proofs.YtpcimcamjlbagaaDoor
set_option linter.unusedVariables false
set_option linter.unusedSimpArgs false
set_option maxRecDepth 100000
open Go.RowKit

set_option maxHeartbeats 1000000 in
theorem FnExactFormatCore_walk (t : TCore) (vs : List Value) (w : World) (hv : Dat.HoldVals w (fun _ => True) t.D vs) (htab : Tabs w) :
    Calls Tryd.prog 3 #[.agg vs.toArray] w fun e w' => e = .returned (.bool true) ∧ Bel w w' := by
  obtain ⟨x0, x1, x2, x3, x4, x5⟩ := t
  obtain ⟨A0_5, c0_5, rfl, -⟩ := TCore.vals hv
  have HV0 := hide hv
  clear hv
  have HTab := hide htab
  clear htab
  rcases Nat.lt_or_ge 1048576 (Dat.wtL (TCore.mk x0 x1 x2 x3 x4 x5).D) with hs | hs
  · have HZ := hide (szL_no (show (1048576 : Int) < (Dat.wtL (TCore.mk x0 x1 x2 x3 x4 x5).D : Nat) by omega))
    go_enter Tryd.func3, Tryd.ntmps3
    go_wp2_with (fail)
    refine (szCore_any _ _ _ _ _ (Dat.HoldVals.bel bl HV0.out) (by omega) (by omega)).mono ?_
    rintro e w1 ⟨rfl, hb1⟩
    rw [HZ.out]
    go_wp2_with (fail)
    all_goals
      go_returns
      exact ⟨rfl, bl⟩
  · have HZ := hide (szL_yes (show ¬ (1048576 : Int) < (Dat.wtL (TCore.mk x0 x1 x2 x3 x4 x5).D : Nat) by omega))
    have HS := hide hs
    have hs0 : 0 ≤ (1048576 : Int) - (Dat.wtL (TCore.mk x0 x1 x2 x3 x4 x5).D : Nat) := by omega
    clear hs
    go_enter Tryd.func3, Tryd.ntmps3
    go_wp2_with (fail)
    refine (szCore_any _ _ _ _ _ (Dat.HoldVals.bel bl HV0.out) (by omega) (by omega)).mono ?_
    rintro e w1 ⟨rfl, hb1⟩
    rw [HZ.out]
    (have hz1 := hb1.sz; obtain ⟨hk1_0, hf1_0, hl1_0, hn1_0⟩ := hb1.lay (w.heap.size))
    go_wp2_with (fail)
    refine (toCore_any _ _ _ _ (Dat.HoldVals.bel bl HV0.out) HS.out).mono ?_
    rintro e w2 ⟨vs2, rfl, hv2, hb2⟩; obtain ⟨A2_5, c2_5, rfl, -⟩ := TCore.vals hv2; have HV2 := hide hv2; clear hv2; (have hz2 := hb2.sz; obtain ⟨hk2_0, hf2_0, hl2_0, hn2_0⟩ := hb2.lay (w.heap.size))
    go_wp2_with (fail)
    refine (specFormatCore_law _ _ _ _ (HTab.out.on bl) HV2.out HS.out).mono ?_
    rintro e w3 ⟨rfl, hb3⟩
    (have hz3 := hb3.sz; obtain ⟨hk3_0, hf3_0, hl3_0, hn3_0⟩ := hb3.lay (w.heap.size))
    go_wp2_with (fail)
    refine (toCore_any _ _ _ _ (Dat.HoldVals.bel bl HV0.out) HS.out).mono ?_
    rintro e w4 ⟨vs4, rfl, hv4, hb4⟩; obtain ⟨A4_5, c4_5, rfl, -⟩ := TCore.vals hv4; have HV4 := hide hv4; clear hv4; (have hz4 := hb4.sz; obtain ⟨hk4_0, hf4_0, hl4_0, hn4_0⟩ := hb4.lay (w.heap.size))
    go_wp2_with (fail)
    refine (implFormatCore_law _ _ _ _ (HTab.out.on bl) (Dat.HoldVals.bel bl HV4.out) HS.out).mono ?_
    rintro e w5 ⟨rfl, hb5⟩
    (have hz5 := hb5.sz; obtain ⟨hk5_0, hf5_0, hl5_0, hn5_0⟩ := hb5.lay (w.heap.size); obtain ⟨hk5_1, hf5_1, hl5_1, hn5_1⟩ := hb5.lay (w4.heap.size))
    go_wp2_with (fail)
    go_region_held3 (fun w' => w'.cell? ⟨w.heap.size, 0, none⟩ = some (.int .i64 x0) ∧ w'.cell? ⟨w.heap.size, 1, none⟩ = some (.int .i64 x1) ∧ w'.cell? ⟨w.heap.size, 2, none⟩ = some (.int .i64 x2) ∧ w'.cell? ⟨w.heap.size, 3, none⟩ = some (.int .i64 x3) ∧ w'.cell? ⟨w.heap.size, 4, none⟩ = some (.string x4) ∧ w'.cell? ⟨w.heap.size, 5, none⟩ = some (.slice A0_5 x5.length c0_5) ∧ w'.cell? ⟨w4.heap.size, 0, none⟩ = some (.int .i64 x0) ∧ w'.cell? ⟨w4.heap.size, 1, none⟩ = some (.int .i64 x1) ∧ w'.cell? ⟨w4.heap.size, 2, none⟩ = some (.int .i64 x2) ∧ w'.cell? ⟨w4.heap.size, 3, none⟩ = some (.int .i64 x3) ∧ w'.cell? ⟨w4.heap.size, 4, none⟩ = some (.string x4) ∧ w'.cell? ⟨w4.heap.size, 5, none⟩ = some (.slice A4_5 x5.length c4_5)) (go_keep) (first | (go_at_call 6; refine (toCore_any _ _ _ _ (Dat.HoldVals.bel bl HV0.out) HS.out).mono ?_; rintro e w6 ⟨vs6, rfl, hv6, hb6⟩; obtain ⟨A6_5, c6_5, rfl, -⟩ := TCore.vals hv6; have HV6 := hide hv6; clear hv6; (have hz6 := hb6.sz; obtain ⟨hk6_0, hf6_0, hl6_0, hn6_0⟩ := hb6.lay (w.heap.size); obtain ⟨hk6_1, hf6_1, hl6_1, hn6_1⟩ := hb6.lay (w4.heap.size))) | (go_at_call 8; refine (eqCore_any _ _ _ _ _ _ (Dat.HoldVals.bel bl HV4.out) HV6.out).mono ?_; rintro e w7 ⟨rfl, hb7⟩; (have hz7 := hb7.sz; obtain ⟨hk7_0, hf7_0, hl7_0, hn7_0⟩ := hb7.lay (w.heap.size); obtain ⟨hk7_1, hf7_1, hl7_1, hn7_1⟩ := hb7.lay (w4.heap.size))))
    all_goals
      go_wp2_with (fail)
      go_returns
      exact ⟨rfl, bl⟩
end Go.Proofs.YtpcimcamjlbagaaDoor
