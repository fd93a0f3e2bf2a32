/- The laws' helpers of Capture: what is left behind a datum, copies, comparison. -/
import Derived.Test.YtdjbfneniohaaaaHb
import Derived.Test.YtdjbfneniohaaaaTE
namespace Go.Proofs.Ytdjbfneniohaaaa
set_option linter.unusedVariables false
set_option linter.unusedSimpArgs false
set_option maxRecDepth 100000
open Go.RowKit

def EqCapture (t : TCapture) : Prop := ∀ (S S' : Nat → Prop) (w : World) (vs vs' : List Value), Dat.HoldVals w S t.D vs → Dat.HoldVals w S' t.D vs' →
  Calls Try.prog 73 #[.agg vs.toArray, .agg vs'.toArray] w fun e w' => e = .returned (.bool true) ∧ Bel w w'
set_option maxHeartbeats 400000 in
theorem eqCaptureS_of (ks : List TCapture) (IH : ∀ (i : Nat) (hi : i < ks.length), EqCapture ks[i]) (S S' : Nat → Prop) (w : World) (A A' : Option Addr) (c c' : Nat) (hR : Row w S 3 A c (ks.map TCapture.D)) (hR' : Row w S' 3 A' c' (ks.map TCapture.D)) :
    Calls Try.prog 64 #[.slice A ks.length c, .slice A' ks.length c'] w fun e w' => e = .returned (.bool true) ∧ Bel w w' := by
  have IH' := hide IH
  have HR := hide hR
  have HR' := hide hR'
  have hlen := hR.1
  have hcm := hR.2.1
  have hlen' := hR'.1
  have hcm' := hR'.2.1
  simp only [List.length_map] at hlen hlen'
  unfold maxLen at hcm hcm'
  clear IH hR hR'
  go_enter Try.func64, Try.ntmps64
  go_wp2_with (fail)
  go_loopw [5] (fun iv wr => ∃ k : Nat, k ≤ ks.length ∧ iv = .int .i64 k ∧ Bel w wr) (fun iv _ => ks.length - (intOf iv).toNat)
  case atStart => exact ⟨0, Nat.zero_le _, rfl, Bel.refl _⟩
  case round =>
    obtain ⟨k, hk, rfl, hbw⟩ := hrel
    rcases Nat.lt_or_ge k ks.length with hlt | hge
    · have hd : decide ((k : Int) < (ks.length : Int)) = true := by simp; omega
      have hi0 : 0 ≤ (k : Int) := by omega
      have hi1 : (k : Int) < (ks.length : Int) := by omega
      (obtain ⟨b1, o1, x1_0, x1_1, x1_2, hA1, hS1, hl1, hx1, hv1, g1_0, g1_1, g1_2, c1_0, c1_1, c1_2⟩ := TCapture.at HR.out k hlt; subst hA1; have HV1 := hide (Dat.HoldVals.bel hbw hv1); have hh1 := hbw.box b1 hl1; have hw1 := Nat.lt_of_lt_of_le hl1 (Bel.size hbw); replace c1_0 := (hh1 _).trans c1_0; replace c1_1 := (hh1 _).trans c1_1; replace c1_2 := (hh1 _).trans c1_2; have HX1 := hide hx1; clear hh1 hv1 hx1 hS1)
      (obtain ⟨b2, o2, x2_0, x2_1, x2_2, hA2, hS2, hl2, hx2, hv2, g2_0, g2_1, g2_2, c2_0, c2_1, c2_2⟩ := TCapture.at HR'.out k hlt; subst hA2; have HV2 := hide (Dat.HoldVals.bel hbw hv2); have hh2 := hbw.box b2 hl2; have hw2 := Nat.lt_of_lt_of_le hl2 (Bel.size hbw); replace c2_0 := (hh2 _).trans c2_0; replace c2_1 := (hh2 _).trans c2_1; replace c2_2 := (hh2 _).trans c2_2; have HX2 := hide hx2; clear hh2 hv2 hx2 hS2)
      have HY := hide (HX1.out.symm.trans HX2.out)
      go_wp2_with (fail)
      go_region_held3 (fun w' => w'.cell? ⟨b1, o1 + k * 3, none⟩ = some (.int .i64 x1_0) ∧ w'.cell? ⟨b1, o1 + k * 3 + 1, none⟩ = some (.int .i64 x1_1) ∧ w'.cell? ⟨b1, o1 + k * 3 + 2, none⟩ = some (.int .i64 x1_2) ∧ w'.cell? ⟨b2, o2 + k * 3, none⟩ = some (.int .i64 x2_0) ∧ w'.cell? ⟨b2, o2 + k * 3 + 1, none⟩ = some (.int .i64 x2_1) ∧ w'.cell? ⟨b2, o2 + k * 3 + 2, none⟩ = some (.int .i64 x2_2)) (go_keep) (first | (go_at_call 73; refine (IH'.out k hlt S S' _ _ _ (Dat.HoldVals.bel bl HV1.out) (Dat.HoldVals.bel bl HV2.out)).mono ?_; rintro e w1 ⟨rfl, hb1⟩; have hq1 := hb1.box b1 (by simp; omega); have hq2 := hb1.box b2 (by simp; omega); simp only [World.cell?_drew] at hq1 hq2))
      all_goals
        go_wp2_with (fail)
        go_roundw
        case rel => exact ⟨k + 1, by omega, by go_num, bl⟩
        case measure => simp [intOf]; omega
    · have hd : decide ((k : Int) < (ks.length : Int)) = false := by simp; omega
      go_wp2_with (fail)
      go_returns
      exact ⟨rfl, hbw⟩

set_option maxHeartbeats 1000000 in
theorem eqCapture_any : ∀ t : TCapture, EqCapture t := by
  rintro ⟨x0, x1, x2⟩
  intro S S' w vs vs' hv hv'
  obtain ⟨rfl, g0, g1, g2⟩ := TCapture.vals hv
  obtain ⟨rfl, -, -, -⟩ := TCapture.vals hv'
  clear hv hv'
  go_enter Try.func73, Try.ntmps73
  go_wp2_with (fail)
  all_goals
    go_returns
    exact ⟨rfl, bl⟩
theorem eqCaptureS_any (ks : List TCapture) (S S' : Nat → Prop) (w : World) (A A' : Option Addr) (c c' : Nat) (hR : Row w S 3 A c (ks.map TCapture.D)) (hR' : Row w S' 3 A' c' (ks.map TCapture.D)) :
    Calls Try.prog 64 #[.slice A ks.length c, .slice A' ks.length c'] w fun e w' => e = .returned (.bool true) ∧ Bel w w' := eqCaptureS_of ks (fun _ _ => eqCapture_any _) S S' w A A' c c' hR hR'
end Go.Proofs.Ytdjbfneniohaaaa
