/- The walk of FnExactIsValidProgram. -/
import Derived.Test.YtgahehipgabhpaaDoorV9
import Derived.Deep.RegionHeld3
namespace Go.Proofs.YtgahehipgabhpaaDoor
set_option linter.unusedVariables false
set_option linter.unusedSimpArgs false
set_option maxRecDepth 100000
open Go.RowKit

set_option maxHeartbeats 1000000 in
theorem FnExactIsValidProgram_walk (t : TProgram) (vs : List Value) (w : World) (hv : Dat.HoldVals w (fun _ => True) t.D vs) (htab : Sp w) :
    Calls Tryd.prog 3 #[.agg vs.toArray] w fun e w' => e = .returned (.bool true) ∧ Bel w w' := by
  obtain ⟨x0, x1, x2, x3⟩ := t
  obtain ⟨A0_0, c0_0, A0_1, c0_1, A0_2, c0_2, rfl, -⟩ := TProgram.vals hv
  have HV0 := hide hv
  clear hv
  have HTab := hide htab
  clear htab
  rcases Nat.lt_or_ge 1048576 (Dat.wtL (TProgram.mk x0 x1 x2 x3).D) with hs | hs
  · have HZ := hide (szL_no (show (1048576 : Int) < (Dat.wtL (TProgram.mk x0 x1 x2 x3).D : Nat) by omega))
    go_enter Tryd.func3, Tryd.ntmps3
    go_wp2_with (fail)
    refine (szProgram_any _ _ _ _ _ (Dat.HoldVals.bel bl HV0.out) (by omega) (by omega)).mono ?_
    rintro e w1 ⟨rfl, hb1⟩
    rw [HZ.out]
    go_wp2_with (fail)
    all_goals
      go_returns
      exact ⟨rfl, bl⟩
  · have HZ := hide (szL_yes (show ¬ (1048576 : Int) < (Dat.wtL (TProgram.mk x0 x1 x2 x3).D : Nat) by omega))
    have HS := hide hs
    have hs0 : 0 ≤ (1048576 : Int) - (Dat.wtL (TProgram.mk x0 x1 x2 x3).D : Nat) := by omega
    clear hs
    go_enter Tryd.func3, Tryd.ntmps3
    go_wp2_with (fail)
    refine (szProgram_any _ _ _ _ _ (Dat.HoldVals.bel bl HV0.out) (by omega) (by omega)).mono ?_
    rintro e w1 ⟨rfl, hb1⟩
    rw [HZ.out]
    (have hz1 := hb1.sz; obtain ⟨hk1_0, hf1_0, hl1_0, hn1_0⟩ := hb1.lay (w.heap.size))
    go_wp2_with (fail)
    refine (toProgram_any _ _ _ _ (Dat.HoldVals.bel bl HV0.out) HS.out).mono ?_
    rintro e w2 ⟨vs2, rfl, hv2, hb2⟩; obtain ⟨A2_0, c2_0, A2_1, c2_1, A2_2, c2_2, rfl, -⟩ := TProgram.vals hv2; have HV2 := hide hv2; clear hv2; (have hz2 := hb2.sz; obtain ⟨hk2_0, hf2_0, hl2_0, hn2_0⟩ := hb2.lay (w.heap.size))
    go_wp2_with (fail)
    refine (specIsValidProgram_law _ _ _ _ (HTab.out.on bl) HV2.out HS.out).mono ?_
    rintro e w3 ⟨rfl, hb3⟩
    (have hz3 := hb3.sz; obtain ⟨hk3_0, hf3_0, hl3_0, hn3_0⟩ := hb3.lay (w.heap.size))
    go_wp2_with (fail)
    refine (toProgram_any _ _ _ _ (Dat.HoldVals.bel bl HV0.out) HS.out).mono ?_
    rintro e w4 ⟨vs4, rfl, hv4, hb4⟩; obtain ⟨A4_0, c4_0, A4_1, c4_1, A4_2, c4_2, rfl, -⟩ := TProgram.vals hv4; have HV4 := hide hv4; clear hv4; (have hz4 := hb4.sz; obtain ⟨hk4_0, hf4_0, hl4_0, hn4_0⟩ := hb4.lay (w.heap.size))
    go_wp2_with (fail)
    refine (implIsValidProgram_law _ _ _ _ (HTab.out.on bl) (Dat.HoldVals.bel bl HV4.out) HS.out).mono ?_
    rintro e w5 ⟨rfl, hb5⟩
    (have hz5 := hb5.sz; obtain ⟨hk5_0, hf5_0, hl5_0, hn5_0⟩ := hb5.lay (w.heap.size); obtain ⟨hk5_1, hf5_1, hl5_1, hn5_1⟩ := hb5.lay (w4.heap.size))
    go_wp2_with (fail)
    go_region_held3 (fun w' => w'.cell? ⟨w.heap.size, 0, none⟩ = some (.slice A0_0 x0.length c0_0) ∧ w'.cell? ⟨w.heap.size, 1, none⟩ = some (.slice A0_1 x1.length c0_1) ∧ w'.cell? ⟨w.heap.size, 2, none⟩ = some (.slice A0_2 x2.length c0_2) ∧ w'.cell? ⟨w.heap.size, 3, none⟩ = some (.int .i64 x3) ∧ w'.cell? ⟨w4.heap.size, 0, none⟩ = some (.slice A4_0 x0.length c4_0) ∧ w'.cell? ⟨w4.heap.size, 1, none⟩ = some (.slice A4_1 x1.length c4_1) ∧ w'.cell? ⟨w4.heap.size, 2, none⟩ = some (.slice A4_2 x2.length c4_2) ∧ w'.cell? ⟨w4.heap.size, 3, none⟩ = some (.int .i64 x3)) (go_keep) (first | (go_at_call 6; refine (toProgram_any _ _ _ _ (Dat.HoldVals.bel bl HV0.out) HS.out).mono ?_; rintro e w6 ⟨vs6, rfl, hv6, hb6⟩; obtain ⟨A6_0, c6_0, A6_1, c6_1, A6_2, c6_2, rfl, -⟩ := TProgram.vals hv6; have HV6 := hide hv6; clear hv6; (have hz6 := hb6.sz; obtain ⟨hk6_0, hf6_0, hl6_0, hn6_0⟩ := hb6.lay (w.heap.size); obtain ⟨hk6_1, hf6_1, hl6_1, hn6_1⟩ := hb6.lay (w4.heap.size))) | (go_at_call 8; refine (eqProgram_any _ _ _ _ _ _ (Dat.HoldVals.bel bl HV4.out) HV6.out).mono ?_; rintro e w7 ⟨rfl, hb7⟩; (have hz7 := hb7.sz; obtain ⟨hk7_0, hf7_0, hl7_0, hn7_0⟩ := hb7.lay (w.heap.size); obtain ⟨hk7_1, hf7_1, hl7_1, hn7_1⟩ := hb7.lay (w4.heap.size))))
    all_goals
      go_wp2_with (fail)
      go_returns
      exact ⟨rfl, bl⟩
end Go.Proofs.YtgahehipgabhpaaDoor
