/- The walk of FnExactFormatPattern. -/
import Derived.Test.YtmikipcfepgogaaDoorP19
import Derived.Deep.RegionHeld3
namespace Go.Proofs.YtmikipcfepgogaaDoor
set_option linter.unusedVariables false
set_option linter.unusedSimpArgs false
set_option maxRecDepth 100000
open Go.RowKit

set_option maxHeartbeats 1000000 in
theorem FnExactFormatPattern_walk (t : TPattern) (vs : List Value) (w : World) (hv : Dat.HoldVals w (fun _ => True) t.D vs) (htab : P10 w) :
    Calls Tryd.prog 3 #[.agg vs.toArray] w fun e w' => e = .returned (.bool true) ∧ Bel w w' := by
  obtain ⟨x0, x1, x2, x3, x4, x5⟩ := t
  obtain ⟨A0_5, c0_5, rfl, -⟩ := TPattern.vals hv
  have HV0 := hide hv
  clear hv
  have HTab := hide htab
  clear htab
  rcases Nat.lt_or_ge 1048576 (Dat.wtL (TPattern.mk x0 x1 x2 x3 x4 x5).D) with hs | hs
  · have HZ := hide (szL_no (show (1048576 : Int) < (Dat.wtL (TPattern.mk x0 x1 x2 x3 x4 x5).D : Nat) by omega))
    go_enter Tryd.func3, Tryd.ntmps3
    go_wp2_with (fail)
    refine (szPattern_any _ _ _ _ _ (Dat.HoldVals.bel (by repeat' (first | with_reducible exact Bel.refl _ | with_reducible assumption | with_reducible refine Bel.set ?_ ?_ _ | with_reducible refine Bel.alloc ?_ _ | with_reducible refine Bel.drew ?_ | with_reducible refine Bel.drewN ?_ _ | with_reducible refine Bel.trans ?_ (by with_reducible assumption) | (simp; done) | (simp; omega) | refine Bel.alloc ?_ _ | refine Bel.drew ?_ | refine Bel.drewN ?_ _ | refine Bel.set ?_ ?_ _)) HV0.out) (by omega) (by omega)).mono ?_
    rintro e w1 ⟨rfl, hb1⟩
    rw [HZ.out]
    go_wp2_with (fail)
    all_goals
      go_returns
      exact ⟨rfl, (by repeat' (first | with_reducible exact Bel.refl _ | with_reducible assumption | with_reducible refine Bel.set ?_ ?_ _ | with_reducible refine Bel.alloc ?_ _ | with_reducible refine Bel.drew ?_ | with_reducible refine Bel.drewN ?_ _ | with_reducible refine Bel.trans ?_ (by with_reducible assumption) | (simp; done) | (simp; omega) | refine Bel.alloc ?_ _ | refine Bel.drew ?_ | refine Bel.drewN ?_ _ | refine Bel.set ?_ ?_ _))⟩
  · have HZ := hide (szL_yes (show ¬ (1048576 : Int) < (Dat.wtL (TPattern.mk x0 x1 x2 x3 x4 x5).D : Nat) by omega))
    have HS := hide hs
    have hs0 : 0 ≤ (1048576 : Int) - (Dat.wtL (TPattern.mk x0 x1 x2 x3 x4 x5).D : Nat) := by omega
    clear hs
    go_enter Tryd.func3, Tryd.ntmps3
    go_wp2_with (fail)
    refine (szPattern_any _ _ _ _ _ (Dat.HoldVals.bel (by repeat' (first | with_reducible exact Bel.refl _ | with_reducible assumption | with_reducible refine Bel.set ?_ ?_ _ | with_reducible refine Bel.alloc ?_ _ | with_reducible refine Bel.drew ?_ | with_reducible refine Bel.drewN ?_ _ | with_reducible refine Bel.trans ?_ (by with_reducible assumption) | (simp; done) | (simp; omega) | refine Bel.alloc ?_ _ | refine Bel.drew ?_ | refine Bel.drewN ?_ _ | refine Bel.set ?_ ?_ _)) HV0.out) (by omega) (by omega)).mono ?_
    rintro e w1 ⟨rfl, hb1⟩
    rw [HZ.out]
    (have hz1 := hb1.size; (try simp only [World.size_alloc, World.size_setCell, World.size_drew] at hz1); have hk1_0 := hb1.box (w.heap.size) (by first | (simp; done) | (simp; omega) | omega); have hf1_0 := hb1.boxf (w.heap.size) (by first | (simp; done) | (simp; omega) | omega); have hl1_0 : w.heap.size < w1.heap.size := (by omega); have hn1_0 : ¬ w.heap.size = w1.heap.size := (by omega))
    go_wp2_with (fail)
    refine (toPattern_any _ _ _ _ (Dat.HoldVals.bel (by repeat' (first | with_reducible exact Bel.refl _ | with_reducible assumption | with_reducible refine Bel.set ?_ ?_ _ | with_reducible refine Bel.alloc ?_ _ | with_reducible refine Bel.drew ?_ | with_reducible refine Bel.drewN ?_ _ | with_reducible refine Bel.trans ?_ (by with_reducible assumption) | (simp; done) | (simp; omega) | refine Bel.alloc ?_ _ | refine Bel.drew ?_ | refine Bel.drewN ?_ _ | refine Bel.set ?_ ?_ _)) HV0.out) HS.out).mono ?_
    rintro e w2 ⟨vs2, rfl, hv2, hb2⟩; obtain ⟨A2_5, c2_5, rfl, -⟩ := TPattern.vals hv2; have HV2 := hide hv2; clear hv2; (have hz2 := hb2.size; (try simp only [World.size_alloc, World.size_setCell, World.size_drew] at hz2); have hk2_0 := hb2.box (w.heap.size) (by first | (simp; done) | (simp; omega) | omega); have hf2_0 := hb2.boxf (w.heap.size) (by first | (simp; done) | (simp; omega) | omega); have hl2_0 : w.heap.size < w2.heap.size := (by omega); have hn2_0 : ¬ w.heap.size = w2.heap.size := (by omega))
    go_wp2_with (fail)
    refine (specFormatPattern_law _ _ _ _ (HTab.out.on (by repeat' (first | with_reducible exact Bel.refl _ | with_reducible assumption | with_reducible refine Bel.set ?_ ?_ _ | with_reducible refine Bel.alloc ?_ _ | with_reducible refine Bel.drew ?_ | with_reducible refine Bel.drewN ?_ _ | with_reducible refine Bel.trans ?_ (by with_reducible assumption) | (simp; done) | (simp; omega) | refine Bel.alloc ?_ _ | refine Bel.drew ?_ | refine Bel.drewN ?_ _ | refine Bel.set ?_ ?_ _))) HV2.out HS.out).mono ?_
    rintro e w3 ⟨rfl, hb3⟩
    (have hz3 := hb3.size; (try simp only [World.size_alloc, World.size_setCell, World.size_drew] at hz3); have hk3_0 := hb3.box (w.heap.size) (by first | (simp; done) | (simp; omega) | omega); have hf3_0 := hb3.boxf (w.heap.size) (by first | (simp; done) | (simp; omega) | omega); have hl3_0 : w.heap.size < w3.heap.size := (by omega); have hn3_0 : ¬ w.heap.size = w3.heap.size := (by omega))
    go_wp2_with (fail)
    refine (toPattern_any _ _ _ _ (Dat.HoldVals.bel (by repeat' (first | with_reducible exact Bel.refl _ | with_reducible assumption | with_reducible refine Bel.set ?_ ?_ _ | with_reducible refine Bel.alloc ?_ _ | with_reducible refine Bel.drew ?_ | with_reducible refine Bel.drewN ?_ _ | with_reducible refine Bel.trans ?_ (by with_reducible assumption) | (simp; done) | (simp; omega) | refine Bel.alloc ?_ _ | refine Bel.drew ?_ | refine Bel.drewN ?_ _ | refine Bel.set ?_ ?_ _)) HV0.out) HS.out).mono ?_
    rintro e w4 ⟨vs4, rfl, hv4, hb4⟩; obtain ⟨A4_5, c4_5, rfl, -⟩ := TPattern.vals hv4; have HV4 := hide hv4; clear hv4; (have hz4 := hb4.size; (try simp only [World.size_alloc, World.size_setCell, World.size_drew] at hz4); have hk4_0 := hb4.box (w.heap.size) (by first | (simp; done) | (simp; omega) | omega); have hf4_0 := hb4.boxf (w.heap.size) (by first | (simp; done) | (simp; omega) | omega); have hl4_0 : w.heap.size < w4.heap.size := (by omega); have hn4_0 : ¬ w.heap.size = w4.heap.size := (by omega))
    go_wp2_with (fail)
    refine (implFormatPattern_law _ _ _ _ (HTab.out.on (by repeat' (first | with_reducible exact Bel.refl _ | with_reducible assumption | with_reducible refine Bel.set ?_ ?_ _ | with_reducible refine Bel.alloc ?_ _ | with_reducible refine Bel.drew ?_ | with_reducible refine Bel.drewN ?_ _ | with_reducible refine Bel.trans ?_ (by with_reducible assumption) | (simp; done) | (simp; omega) | refine Bel.alloc ?_ _ | refine Bel.drew ?_ | refine Bel.drewN ?_ _ | refine Bel.set ?_ ?_ _))) (Dat.HoldVals.bel (by repeat' (first | with_reducible exact Bel.refl _ | with_reducible assumption | with_reducible refine Bel.set ?_ ?_ _ | with_reducible refine Bel.alloc ?_ _ | with_reducible refine Bel.drew ?_ | with_reducible refine Bel.drewN ?_ _ | with_reducible refine Bel.trans ?_ (by with_reducible assumption) | (simp; done) | (simp; omega) | refine Bel.alloc ?_ _ | refine Bel.drew ?_ | refine Bel.drewN ?_ _ | refine Bel.set ?_ ?_ _)) HV4.out) HS.out).mono ?_
    rintro e w5 ⟨rfl, hb5⟩
    (have hz5 := hb5.size; (try simp only [World.size_alloc, World.size_setCell, World.size_drew] at hz5); have hk5_0 := hb5.box (w.heap.size) (by first | (simp; done) | (simp; omega) | omega); have hf5_0 := hb5.boxf (w.heap.size) (by first | (simp; done) | (simp; omega) | omega); have hl5_0 : w.heap.size < w5.heap.size := (by omega); have hn5_0 : ¬ w.heap.size = w5.heap.size := (by omega); have hk5_1 := hb5.box (w4.heap.size) (by first | (simp; done) | (simp; omega) | omega); have hf5_1 := hb5.boxf (w4.heap.size) (by first | (simp; done) | (simp; omega) | omega); have hl5_1 : w4.heap.size < w5.heap.size := (by omega); have hn5_1 : ¬ w4.heap.size = w5.heap.size := (by omega))
    go_wp2_with (fail)
    go_region_held3 (fun w' => w'.cell? ⟨w.heap.size, 0, none⟩ = some (.int .i64 x0) ∧ w'.cell? ⟨w.heap.size, 1, none⟩ = some (.string x1) ∧ w'.cell? ⟨w.heap.size, 2, none⟩ = some (.int .i64 x2) ∧ w'.cell? ⟨w.heap.size, 3, none⟩ = some (.int .i64 x3) ∧ w'.cell? ⟨w.heap.size, 4, none⟩ = some (.int .i64 x4) ∧ w'.cell? ⟨w.heap.size, 5, none⟩ = some (.slice A0_5 x5.length c0_5) ∧ w'.cell? ⟨w4.heap.size, 0, none⟩ = some (.int .i64 x0) ∧ w'.cell? ⟨w4.heap.size, 1, none⟩ = some (.string x1) ∧ w'.cell? ⟨w4.heap.size, 2, none⟩ = some (.int .i64 x2) ∧ w'.cell? ⟨w4.heap.size, 3, none⟩ = some (.int .i64 x3) ∧ w'.cell? ⟨w4.heap.size, 4, none⟩ = some (.int .i64 x4) ∧ w'.cell? ⟨w4.heap.size, 5, none⟩ = some (.slice A4_5 x5.length c4_5)) (go_keep) (first | (go_at_call 8; refine (toPattern_any _ _ _ _ (Dat.HoldVals.bel (by repeat' (first | with_reducible exact Bel.refl _ | with_reducible assumption | with_reducible refine Bel.set ?_ ?_ _ | with_reducible refine Bel.alloc ?_ _ | with_reducible refine Bel.drew ?_ | with_reducible refine Bel.drewN ?_ _ | with_reducible refine Bel.trans ?_ (by with_reducible assumption) | (simp; done) | (simp; omega) | refine Bel.alloc ?_ _ | refine Bel.drew ?_ | refine Bel.drewN ?_ _ | refine Bel.set ?_ ?_ _)) HV0.out) HS.out).mono ?_; rintro e w6 ⟨vs6, rfl, hv6, hb6⟩; obtain ⟨A6_5, c6_5, rfl, -⟩ := TPattern.vals hv6; have HV6 := hide hv6; clear hv6; (have hz6 := hb6.size; (try simp only [World.size_alloc, World.size_setCell, World.size_drew] at hz6); have hk6_0 := hb6.box (w.heap.size) (by first | (simp; done) | (simp; omega) | omega); have hf6_0 := hb6.boxf (w.heap.size) (by first | (simp; done) | (simp; omega) | omega); have hl6_0 : w.heap.size < w6.heap.size := (by omega); have hn6_0 : ¬ w.heap.size = w6.heap.size := (by omega); have hk6_1 := hb6.box (w4.heap.size) (by first | (simp; done) | (simp; omega) | omega); have hf6_1 := hb6.boxf (w4.heap.size) (by first | (simp; done) | (simp; omega) | omega); have hl6_1 : w4.heap.size < w6.heap.size := (by omega); have hn6_1 : ¬ w4.heap.size = w6.heap.size := (by omega))) | (go_at_call 10; refine (eqPattern_any _ _ _ _ _ _ (Dat.HoldVals.bel (by repeat' (first | with_reducible exact Bel.refl _ | with_reducible assumption | with_reducible refine Bel.set ?_ ?_ _ | with_reducible refine Bel.alloc ?_ _ | with_reducible refine Bel.drew ?_ | with_reducible refine Bel.drewN ?_ _ | with_reducible refine Bel.trans ?_ (by with_reducible assumption) | (simp; done) | (simp; omega) | refine Bel.alloc ?_ _ | refine Bel.drew ?_ | refine Bel.drewN ?_ _ | refine Bel.set ?_ ?_ _)) HV4.out) HV6.out).mono ?_; rintro e w7 ⟨rfl, hb7⟩; (have hz7 := hb7.size; (try simp only [World.size_alloc, World.size_setCell, World.size_drew] at hz7); have hk7_0 := hb7.box (w.heap.size) (by first | (simp; done) | (simp; omega) | omega); have hf7_0 := hb7.boxf (w.heap.size) (by first | (simp; done) | (simp; omega) | omega); have hl7_0 : w.heap.size < w7.heap.size := (by omega); have hn7_0 : ¬ w.heap.size = w7.heap.size := (by omega); have hk7_1 := hb7.box (w4.heap.size) (by first | (simp; done) | (simp; omega) | omega); have hf7_1 := hb7.boxf (w4.heap.size) (by first | (simp; done) | (simp; omega) | omega); have hl7_1 : w4.heap.size < w7.heap.size := (by omega); have hn7_1 : ¬ w4.heap.size = w7.heap.size := (by omega))))
    all_goals
      go_wp2_with (fail)
      go_returns
      exact ⟨rfl, (by repeat' (first | with_reducible exact Bel.refl _ | with_reducible assumption | with_reducible refine Bel.set ?_ ?_ _ | with_reducible refine Bel.alloc ?_ _ | with_reducible refine Bel.drew ?_ | with_reducible refine Bel.drewN ?_ _ | with_reducible refine Bel.trans ?_ (by with_reducible assumption) | (simp; done) | (simp; omega) | refine Bel.alloc ?_ _ | refine Bel.drew ?_ | refine Bel.drewN ?_ _ | refine Bel.set ?_ ?_ _))⟩
end Go.Proofs.YtmikipcfepgogaaDoor
