/- OperatorText of the reference; OperatorArity, both sides. -/
import Derived.Test.YtgofbnmablgedaaGreatDoorPE4
namespace Go.Proofs.YtgofbnmablgedaaGreatDoor
set_option linter.unusedVariables false
set_option linter.unusedSimpArgs false
set_option maxRecDepth 100000
open Go.RowKit
theorem opT_small (n : Int) (h : ¬ opBig n) : opT n = opT0 n := by unfold opT; rw [if_neg h]
set_option maxHeartbeats 400000 in
theorem specOT_r1 (n : Int) (w : World) (h0 : 1 ≤ n) (h1 : n ≤ 11) :
  Calls Tryz.prog 96 #[.int .i64 n] w fun e w' => e = .returned (.string (opT n)) ∧ Bel w w' := by
 have hL : opsL.length = 11 := by decide +kernel
 have hw : IntKind.i64.wrap (n - 1) = n - 1 := by rw [IntKind.wrap_i64]; omega
 have i1 : 0 ≤ n - 1 := by omega
 have i2 : n - 1 < 11 := by omega
 have hk : n.toNat - 1 < opsL.length := by omega
 have hc := strs_cell opsL w (n.toNat - 1) hk
 have e0 : opT n = opsL.getD (n.toNat - 1) ByteArray.empty := by
  rw [opT_small n (by unfold opBig; omega)]
  unfold opT0
  rw [if_pos (by omega), show (n - 1).toNat = n.toNat - 1 by omega]
 rw [e0, getD_lt _ _ hk]
 rw [getD_lt _ _ hk] at hc
 go_enter Tryz.func96, Tryz.ntmps96
 go_wp2_with (go_at_call 100; refine (l10Ops_any _).mono ?_; rintro e w1 ⟨rfl, rfl⟩; rw [hL])
 all_goals
  go_returns
  exact ⟨rfl, bl⟩
set_option maxHeartbeats 400000 in
theorem specOT_r20 (n : Int) (w : World) (h0 : 20 ≤ n) (h1 : n ≤ 63) :
  Calls Tryz.prog 96 #[.int .i64 n] w fun e w' => e = .returned (.string (opT n)) ∧ Bel w w' := by
 have hL : binL.length = 44 := by decide +kernel
 have hw : IntKind.i64.wrap (n - 20) = n - 20 := by rw [IntKind.wrap_i64]; omega
 have i1 : 0 ≤ n - 20 := by omega
 have i2 : n - 20 < 44 := by omega
 have hk : (n - 20).toNat < binL.length := by omega
 have hc := strs_cell binL w ((n - 20).toNat) hk
 have e0 : opT n = binL.getD ((n - 20).toNat) ByteArray.empty := by
  rw [opT_small n (by unfold opBig; omega)]
  unfold opT0
  rw [if_neg (by omega), if_pos (by omega)]
 rw [e0, getD_lt _ _ hk]
 rw [getD_lt _ _ hk] at hc
 go_enter Tryz.func96, Tryz.ntmps96
 go_wp2_with (go_at_call 101; refine (l10Binary_any _).mono ?_; rintro e w1 ⟨rfl, rfl⟩; rw [hL])
 all_goals
  go_returns
  exact ⟨rfl, bl⟩
set_option maxHeartbeats 400000 in
theorem specOT_b220 (n : Int) (w : World) (h0 : 220 ≤ n) (h1 : n ≤ 225) :
  Calls Tryz.prog 96 #[.int .i64 n] w fun e w' => e = .returned (.string (opT n)) ∧ Bel w w' := by
 have hL : binL.length = 44 := by decide +kernel
 have hw : IntKind.i64.wrap (n - 220) = n - 220 := by rw [IntKind.wrap_i64]; omega
 have i1 : 0 ≤ n - 220 := by omega
 have i2 : n - 220 < 44 := by omega
 have hk : (n - 220).toNat < binL.length := by omega
 have hc := strs_cell binL w ((n - 220).toNat) hk
 have e0 : opT n = binL.getD ((n - 220).toNat) ByteArray.empty ++ ⟨#[58, 61]⟩ := by
  unfold opT opT0
  rw [if_pos (by unfold opBig; omega), if_neg (by omega), if_pos (by omega), show n - 200 - 20 = n - 220 by omega]
 rw [e0, getD_lt _ _ hk]
 rw [getD_lt _ _ hk] at hc
 have hz : binL[(n - 220).toNat].size ≤ 5 := by
  have := List.all_eq_true.1 (by decide +kernel : (binL.all fun s => decide (s.size ≤ 5)) = true) _ (List.getElem_mem hk)
  simpa using this
 go_enter Tryz.func96, Tryz.ntmps96
 go_wp2_with (go_at_call 101; refine (l10Binary_any _).mono ?_; rintro e w1 ⟨rfl, rfl⟩; rw [hL])
 all_goals
  go_returns
  exact ⟨rfl, bl⟩
set_option maxHeartbeats 400000 in
theorem specOT_b250 (n : Int) (w : World) (h0 : 250 ≤ n) (h1 : n ≤ 254) :
  Calls Tryz.prog 96 #[.int .i64 n] w fun e w' => e = .returned (.string (opT n)) ∧ Bel w w' := by
 have hL : binL.length = 44 := by decide +kernel
 have hw : IntKind.i64.wrap (n - 220) = n - 220 := by rw [IntKind.wrap_i64]; omega
 have i1 : 0 ≤ n - 220 := by omega
 have i2 : n - 220 < 44 := by omega
 have hk : (n - 220).toNat < binL.length := by omega
 have hc := strs_cell binL w ((n - 220).toNat) hk
 have e0 : opT n = binL.getD ((n - 220).toNat) ByteArray.empty ++ ⟨#[58, 61]⟩ := by
  unfold opT opT0
  rw [if_pos (by unfold opBig; omega), if_neg (by omega), if_pos (by omega), show n - 200 - 20 = n - 220 by omega]
 rw [e0, getD_lt _ _ hk]
 rw [getD_lt _ _ hk] at hc
 have hz : binL[(n - 220).toNat].size ≤ 5 := by
  have := List.all_eq_true.1 (by decide +kernel : (binL.all fun s => decide (s.size ≤ 5)) = true) _ (List.getElem_mem hk)
  simpa using this
 go_enter Tryz.func96, Tryz.ntmps96
 go_wp2_with (go_at_call 101; refine (l10Binary_any _).mono ?_; rintro e w1 ⟨rfl, rfl⟩; rw [hL])
 all_goals
  go_returns
  exact ⟨rfl, bl⟩
theorem specOT_70 (w : World) : Calls Tryz.prog 96 #[.int .i64 70] w fun e w' => e = .returned (.string (opT 70)) ∧ Bel w w' := by
 rw [show opT 70 = ⟨#[91, 93]⟩ by decide +kernel]
 go_enter Tryz.func96, Tryz.ntmps96
 go_wp2_with (fail)
 all_goals
  go_returns
  exact ⟨rfl, bl⟩
theorem specOT_71 (w : World) : Calls Tryz.prog 96 #[.int .i64 71] w fun e w' => e = .returned (.string (opT 71)) ∧ Bel w w' := by
 rw [show opT 71 = ⟨#[91, 58, 93]⟩ by decide +kernel]
 go_enter Tryz.func96, Tryz.ntmps96
 go_wp2_with (fail)
 all_goals
  go_returns
  exact ⟨rfl, bl⟩
theorem specOT_72 (w : World) : Calls Tryz.prog 96 #[.int .i64 72] w fun e w' => e = .returned (.string (opT 72)) ∧ Bel w w' := by
 rw [show opT 72 = ⟨#[116, 111]⟩ by decide +kernel]
 go_enter Tryz.func96, Tryz.ntmps96
 go_wp2_with (fail)
 all_goals
  go_returns
  exact ⟨rfl, bl⟩
theorem specOT_73 (w : World) : Calls Tryz.prog 96 #[.int .i64 73] w fun e w' => e = .returned (.string (opT 73)) ∧ Bel w w' := by
 rw [show opT 73 = ⟨#[38]⟩ by decide +kernel]
 go_enter Tryz.func96, Tryz.ntmps96
 go_wp2_with (fail)
 all_goals
  go_returns
  exact ⟨rfl, bl⟩
theorem specOT_74 (w : World) : Calls Tryz.prog 96 #[.int .i64 74] w fun e w' => e = .returned (.string (opT 74)) ∧ Bel w w' := by
 rw [show opT 74 = ⟨#[91, 46, 46, 46, 93]⟩ by decide +kernel]
 go_enter Tryz.func96, Tryz.ntmps96
 go_wp2_with (fail)
 all_goals
  go_returns
  exact ⟨rfl, bl⟩
theorem specOT_75 (w : World) : Calls Tryz.prog 96 #[.int .i64 75] w fun e w' => e = .returned (.string (opT 75)) ∧ Bel w w' := by
 rw [show opT 75 = ⟨#[63, 63]⟩ by decide +kernel]
 go_enter Tryz.func96, Tryz.ntmps96
 go_wp2_with (fail)
 all_goals
  go_returns
  exact ⟨rfl, bl⟩
theorem specOT_76 (w : World) : Calls Tryz.prog 96 #[.int .i64 76] w fun e w' => e = .returned (.string (opT 76)) ∧ Bel w w' := by
 rw [show opT 76 = ⟨#[46, 124]⟩ by decide +kernel]
 go_enter Tryz.func96, Tryz.ntmps96
 go_wp2_with (fail)
 all_goals
  go_returns
  exact ⟨rfl, bl⟩
theorem specOT_77 (w : World) : Calls Tryz.prog 96 #[.int .i64 77] w fun e w' => e = .returned (.string (opT 77)) ∧ Bel w w' := by
 rw [show opT 77 = ⟨#[45, 62]⟩ by decide +kernel]
 go_enter Tryz.func96, Tryz.ntmps96
 go_wp2_with (fail)
 all_goals
  go_returns
  exact ⟨rfl, bl⟩
theorem specOT_78 (w : World) : Calls Tryz.prog 96 #[.int .i64 78] w fun e w' => e = .returned (.string (opT 78)) ∧ Bel w w' := by
 rw [show opT 78 = ⟨#[61, 62]⟩ by decide +kernel]
 go_enter Tryz.func96, Tryz.ntmps96
 go_wp2_with (fail)
 all_goals
  go_returns
  exact ⟨rfl, bl⟩
theorem specOT_79 (w : World) : Calls Tryz.prog 96 #[.int .i64 79] w fun e w' => e = .returned (.string (opT 79)) ∧ Bel w w' := by
 rw [show opT 79 = ⟨#[102, 105, 101, 108, 100]⟩ by decide +kernel]
 go_enter Tryz.func96, Tryz.ntmps96
 go_wp2_with (fail)
 all_goals
  go_returns
  exact ⟨rfl, bl⟩
theorem specOT_81 (w : World) : Calls Tryz.prog 96 #[.int .i64 81] w fun e w' => e = .returned (.string (opT 81)) ∧ Bel w w' := by
 rw [show opT 81 = ⟨#[100, 101, 102, 101, 114]⟩ by decide +kernel]
 go_enter Tryz.func96, Tryz.ntmps96
 go_wp2_with (fail)
 all_goals
  go_returns
  exact ⟨rfl, bl⟩
set_option maxHeartbeats 400000 in
theorem specOT_gap0 (n : Int) (w : World) (h1 : n ≤ 0) :
  Calls Tryz.prog 96 #[.int .i64 n] w fun e w' => e = .returned (.string (opT n)) ∧ Bel w w' := by
 rw [opT_small n (by unfold opBig; omega), opT0_gap n (by omega) (by omega) (by omega) (by omega) (by omega) (by omega) (by omega) (by omega)]
 go_enter Tryz.func96, Tryz.ntmps96
 go_wp2_with (fail)
 all_goals
  go_returns
  exact ⟨rfl, bl⟩
set_option maxHeartbeats 400000 in
theorem specOT_gap1 (n : Int) (w : World) (h0 : 12 ≤ n) (h1 : n ≤ 19) :
  Calls Tryz.prog 96 #[.int .i64 n] w fun e w' => e = .returned (.string (opT n)) ∧ Bel w w' := by
 rw [opT_small n (by unfold opBig; omega), opT0_gap n (by omega) (by omega) (by omega) (by omega) (by omega) (by omega) (by omega) (by omega)]
 go_enter Tryz.func96, Tryz.ntmps96
 go_wp2_with (fail)
 all_goals
  go_returns
  exact ⟨rfl, bl⟩
set_option maxHeartbeats 400000 in
theorem specOT_gap2 (n : Int) (w : World) (h0 : 64 ≤ n) (h1 : n ≤ 69) :
  Calls Tryz.prog 96 #[.int .i64 n] w fun e w' => e = .returned (.string (opT n)) ∧ Bel w w' := by
 rw [opT_small n (by unfold opBig; omega), opT0_gap n (by omega) (by omega) (by omega) (by omega) (by omega) (by omega) (by omega) (by omega)]
 go_enter Tryz.func96, Tryz.ntmps96
 go_wp2_with (fail)
 all_goals
  go_returns
  exact ⟨rfl, bl⟩
set_option maxHeartbeats 400000 in
theorem specOT_gap3 (n : Int) (w : World) (h0 : 80 ≤ n) (h1 : n ≤ 80) :
  Calls Tryz.prog 96 #[.int .i64 n] w fun e w' => e = .returned (.string (opT n)) ∧ Bel w w' := by
 rw [opT_small n (by unfold opBig; omega), opT0_gap n (by omega) (by omega) (by omega) (by omega) (by omega) (by omega) (by omega) (by omega)]
 go_enter Tryz.func96, Tryz.ntmps96
 go_wp2_with (fail)
 all_goals
  go_returns
  exact ⟨rfl, bl⟩
set_option maxHeartbeats 400000 in
theorem specOT_gap4 (n : Int) (w : World) (h0 : 82 ≤ n) (h1 : n ≤ 219) :
  Calls Tryz.prog 96 #[.int .i64 n] w fun e w' => e = .returned (.string (opT n)) ∧ Bel w w' := by
 rw [opT_small n (by unfold opBig; omega), opT0_gap n (by omega) (by omega) (by omega) (by omega) (by omega) (by omega) (by omega) (by omega)]
 go_enter Tryz.func96, Tryz.ntmps96
 go_wp2_with (fail)
 all_goals
  go_returns
  exact ⟨rfl, bl⟩
set_option maxHeartbeats 400000 in
theorem specOT_gap5 (n : Int) (w : World) (h0 : 226 ≤ n) (h1 : n ≤ 249) :
  Calls Tryz.prog 96 #[.int .i64 n] w fun e w' => e = .returned (.string (opT n)) ∧ Bel w w' := by
 rw [opT_small n (by unfold opBig; omega), opT0_gap n (by omega) (by omega) (by omega) (by omega) (by omega) (by omega) (by omega) (by omega)]
 go_enter Tryz.func96, Tryz.ntmps96
 go_wp2_with (fail)
 all_goals
  go_returns
  exact ⟨rfl, bl⟩
set_option maxHeartbeats 400000 in
theorem specOT_gap6 (n : Int) (w : World) (h0 : 255 ≤ n) :
  Calls Tryz.prog 96 #[.int .i64 n] w fun e w' => e = .returned (.string (opT n)) ∧ Bel w w' := by
 rw [opT_small n (by unfold opBig; omega), opT0_gap n (by omega) (by omega) (by omega) (by omega) (by omega) (by omega) (by omega) (by omega)]
 go_enter Tryz.func96, Tryz.ntmps96
 go_wp2_with (fail)
 all_goals
  go_returns
  exact ⟨rfl, bl⟩
theorem specOperatorText_any (n : Int) (w : World) :
  Calls Tryz.prog 96 #[.int .i64 n] w fun e w' => e = .returned (.string (opT n)) ∧ Bel w w' := by
 by_cases cr1 : 1 ≤ n ∧ n ≤ 11
 ·
  exact specOT_r1 n w cr1.1 cr1.2
 by_cases cr20 : 20 ≤ n ∧ n ≤ 63
 ·
  exact specOT_r20 n w cr20.1 cr20.2
 by_cases cb220 : 220 ≤ n ∧ n ≤ 225
 ·
  exact specOT_b220 n w cb220.1 cb220.2
 by_cases cb250 : 250 ≤ n ∧ n ≤ 254
 ·
  exact specOT_b250 n w cb250.1 cb250.2
 by_cases e70 : n = 70
 ·
  subst e70; exact specOT_70 w
 by_cases e71 : n = 71
 ·
  subst e71; exact specOT_71 w
 by_cases e72 : n = 72
 ·
  subst e72; exact specOT_72 w
 by_cases e73 : n = 73
 ·
  subst e73; exact specOT_73 w
 by_cases e74 : n = 74
 ·
  subst e74; exact specOT_74 w
 by_cases e75 : n = 75
 ·
  subst e75; exact specOT_75 w
 by_cases e76 : n = 76
 ·
  subst e76; exact specOT_76 w
 by_cases e77 : n = 77
 ·
  subst e77; exact specOT_77 w
 by_cases e78 : n = 78
 ·
  subst e78; exact specOT_78 w
 by_cases e79 : n = 79
 ·
  subst e79; exact specOT_79 w
 by_cases e81 : n = 81
 ·
  subst e81; exact specOT_81 w
 by_cases q0 : n ≤ 0
 ·
  exact specOT_gap0 n w q0
 by_cases q1 : 12 ≤ n ∧ n ≤ 19
 ·
  exact specOT_gap1 n w q1.1 q1.2
 by_cases q2 : 64 ≤ n ∧ n ≤ 69
 ·
  exact specOT_gap2 n w q2.1 q2.2
 by_cases q3 : 80 ≤ n ∧ n ≤ 80
 ·
  exact specOT_gap3 n w q3.1 q3.2
 by_cases q4 : 82 ≤ n ∧ n ≤ 219
 ·
  exact specOT_gap4 n w q4.1 q4.2
 by_cases q5 : 226 ≤ n ∧ n ≤ 249
 ·
  exact specOT_gap5 n w q5.1 q5.2
 by_cases q6 : 255 ≤ n
 ·
  exact specOT_gap6 n w q6
 exfalso; omega
end Go.Proofs.YtgofbnmablgedaaGreatDoor
