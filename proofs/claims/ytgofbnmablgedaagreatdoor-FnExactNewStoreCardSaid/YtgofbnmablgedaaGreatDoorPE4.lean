/- OperatorText of the program, at every number. -/
import Derived.Test.YtgofbnmablgedaaGreatDoorPE3
namespace Go.Proofs.YtgofbnmablgedaaGreatDoor
set_option linter.unusedVariables false
set_option linter.unusedSimpArgs false
set_option maxRecDepth 100000
open Go.RowKit
theorem opT0_gap (n : Int) (h : ¬ (1 ≤ n ∧ n ≤ 11)) (h1 : ¬ (20 ≤ n ∧ n ≤ 25)) (h2 : ¬ (30 ≤ n ∧ n ≤ 35)) (h3 : ¬ (40 ≤ n ∧ n ≤ 47)) (h4 : ¬ (50 ≤ n ∧ n ≤ 54)) (h5 : ¬ (60 ≤ n ∧ n ≤ 63)) (h6 : ¬ (70 ≤ n ∧ n ≤ 79)) (h7 : n ≠ 81) : opT0 n = ByteArray.empty := by
 unfold opT0
 rw [if_neg h, if_neg h6, if_neg h7]
 by_cases hr : 20 ≤ n ∧ n < 64
 ·
  rw [if_pos hr]
  obtain ⟨k, hk⟩ := Int.eq_ofNat_of_zero_le (show 0 ≤ n - 20 by omega)
  obtain rfl : n = k + 20 := by omega
  have hk2 : k < 44 := by omega
  have := (by decide +kernel : ∀ k : Fin 44, ¬ (k.val ≤ 5) → ¬ (10 ≤ k.val ∧ k.val ≤ 15) → ¬ (20 ≤ k.val ∧ k.val ≤ 27) → ¬ (30 ≤ k.val ∧ k.val ≤ 34) → ¬ (40 ≤ k.val) → binL.getD ((k.val : Int) + 20 - 20).toNat ByteArray.empty = ByteArray.empty) ⟨k, hk2⟩
  exact this (by show ¬ (k ≤ 5); omega) (by show ¬ (10 ≤ k ∧ k ≤ 15); omega) (by show ¬ (20 ≤ k ∧ k ≤ 27); omega) (by show ¬ (30 ≤ k ∧ k ≤ 34); omega) (by show ¬ (40 ≤ k); omega)
 ·
  rw [if_neg hr]
theorem opT0_81 : opT0 81 = ⟨#[100, 101, 102, 101, 114]⟩ := by decide +kernel
set_option maxHeartbeats 400000 in
theorem implOT_gap0 (n : Int) (w : World) (h1 : n ≤ 0) :
  Calls Tryz.prog 99 #[.int .i64 n] w fun e w' => e = .returned (.string (opT0 n)) ∧ Bel w w' := by
 rw [opT0_gap n (by omega) (by omega) (by omega) (by omega) (by omega) (by omega) (by omega) (by omega)]
 go_enter Tryz.func99, Tryz.ntmps99
 go_wp2_with (fail)
 all_goals
  go_returns
  exact ⟨rfl, bl⟩
set_option maxHeartbeats 400000 in
theorem implOT_gap1 (n : Int) (w : World) (h0 : 12 ≤ n) (h1 : n ≤ 19) :
  Calls Tryz.prog 99 #[.int .i64 n] w fun e w' => e = .returned (.string (opT0 n)) ∧ Bel w w' := by
 rw [opT0_gap n (by omega) (by omega) (by omega) (by omega) (by omega) (by omega) (by omega) (by omega)]
 go_enter Tryz.func99, Tryz.ntmps99
 go_wp2_with (fail)
 all_goals
  go_returns
  exact ⟨rfl, bl⟩
set_option maxHeartbeats 400000 in
theorem implOT_gap2 (n : Int) (w : World) (h0 : 26 ≤ n) (h1 : n ≤ 29) :
  Calls Tryz.prog 99 #[.int .i64 n] w fun e w' => e = .returned (.string (opT0 n)) ∧ Bel w w' := by
 rw [opT0_gap n (by omega) (by omega) (by omega) (by omega) (by omega) (by omega) (by omega) (by omega)]
 go_enter Tryz.func99, Tryz.ntmps99
 go_wp2_with (fail)
 all_goals
  go_returns
  exact ⟨rfl, bl⟩
set_option maxHeartbeats 400000 in
theorem implOT_gap3 (n : Int) (w : World) (h0 : 36 ≤ n) (h1 : n ≤ 39) :
  Calls Tryz.prog 99 #[.int .i64 n] w fun e w' => e = .returned (.string (opT0 n)) ∧ Bel w w' := by
 rw [opT0_gap n (by omega) (by omega) (by omega) (by omega) (by omega) (by omega) (by omega) (by omega)]
 go_enter Tryz.func99, Tryz.ntmps99
 go_wp2_with (fail)
 all_goals
  go_returns
  exact ⟨rfl, bl⟩
set_option maxHeartbeats 400000 in
theorem implOT_gap4 (n : Int) (w : World) (h0 : 48 ≤ n) (h1 : n ≤ 49) :
  Calls Tryz.prog 99 #[.int .i64 n] w fun e w' => e = .returned (.string (opT0 n)) ∧ Bel w w' := by
 rw [opT0_gap n (by omega) (by omega) (by omega) (by omega) (by omega) (by omega) (by omega) (by omega)]
 go_enter Tryz.func99, Tryz.ntmps99
 go_wp2_with (fail)
 all_goals
  go_returns
  exact ⟨rfl, bl⟩
set_option maxHeartbeats 400000 in
theorem implOT_gap5 (n : Int) (w : World) (h0 : 55 ≤ n) (h1 : n ≤ 59) :
  Calls Tryz.prog 99 #[.int .i64 n] w fun e w' => e = .returned (.string (opT0 n)) ∧ Bel w w' := by
 rw [opT0_gap n (by omega) (by omega) (by omega) (by omega) (by omega) (by omega) (by omega) (by omega)]
 go_enter Tryz.func99, Tryz.ntmps99
 go_wp2_with (fail)
 all_goals
  go_returns
  exact ⟨rfl, bl⟩
set_option maxHeartbeats 400000 in
theorem implOT_gap6 (n : Int) (w : World) (h0 : 64 ≤ n) (h1 : n ≤ 69) :
  Calls Tryz.prog 99 #[.int .i64 n] w fun e w' => e = .returned (.string (opT0 n)) ∧ Bel w w' := by
 rw [opT0_gap n (by omega) (by omega) (by omega) (by omega) (by omega) (by omega) (by omega) (by omega)]
 go_enter Tryz.func99, Tryz.ntmps99
 go_wp2_with (fail)
 all_goals
  go_returns
  exact ⟨rfl, bl⟩
set_option maxHeartbeats 400000 in
theorem implOT_gap7 (n : Int) (w : World) (h0 : 80 ≤ n) (h1 : n ≤ 80) :
  Calls Tryz.prog 99 #[.int .i64 n] w fun e w' => e = .returned (.string (opT0 n)) ∧ Bel w w' := by
 rw [opT0_gap n (by omega) (by omega) (by omega) (by omega) (by omega) (by omega) (by omega) (by omega)]
 go_enter Tryz.func99, Tryz.ntmps99
 go_wp2_with (fail)
 all_goals
  go_returns
  exact ⟨rfl, bl⟩
set_option maxHeartbeats 400000 in
theorem implOT_gap8 (n : Int) (w : World) (h0 : 82 ≤ n) (h1 : n ≤ 219) :
  Calls Tryz.prog 99 #[.int .i64 n] w fun e w' => e = .returned (.string (opT0 n)) ∧ Bel w w' := by
 rw [opT0_gap n (by omega) (by omega) (by omega) (by omega) (by omega) (by omega) (by omega) (by omega)]
 go_enter Tryz.func99, Tryz.ntmps99
 go_wp2_with (fail)
 all_goals
  go_returns
  exact ⟨rfl, bl⟩
set_option maxHeartbeats 400000 in
theorem implOT_gap9 (n : Int) (w : World) (h0 : 226 ≤ n) (h1 : n ≤ 249) :
  Calls Tryz.prog 99 #[.int .i64 n] w fun e w' => e = .returned (.string (opT0 n)) ∧ Bel w w' := by
 rw [opT0_gap n (by omega) (by omega) (by omega) (by omega) (by omega) (by omega) (by omega) (by omega)]
 go_enter Tryz.func99, Tryz.ntmps99
 go_wp2_with (fail)
 all_goals
  go_returns
  exact ⟨rfl, bl⟩
set_option maxHeartbeats 400000 in
theorem implOT_gap10 (n : Int) (w : World) (h0 : 255 ≤ n) :
  Calls Tryz.prog 99 #[.int .i64 n] w fun e w' => e = .returned (.string (opT0 n)) ∧ Bel w w' := by
 rw [opT0_gap n (by omega) (by omega) (by omega) (by omega) (by omega) (by omega) (by omega) (by omega)]
 go_enter Tryz.func99, Tryz.ntmps99
 go_wp2_with (fail)
 all_goals
  go_returns
  exact ⟨rfl, bl⟩
theorem implOT_81 (w : World) :
  Calls Tryz.prog 99 #[.int .i64 81] w fun e w' => e = .returned (.string (opT0 81)) ∧ Bel w w' := by
 rw [opT0_81]
 go_enter Tryz.func99, Tryz.ntmps99
 go_wp2_with (fail)
 all_goals
  go_returns
  exact ⟨rfl, bl⟩
theorem implOT_0 (n : Int) (w : World) (ht : Sp w) (h : ¬ opBig n) :
  Calls Tryz.prog 99 #[.int .i64 n] w fun e w' => e = .returned (.string (opT0 n)) ∧ Bel w w' := by
 unfold opBig at h
 by_cases h0 : 1 ≤ n ∧ n ≤ 11
 ·
  exact implOT_g1 n w h0.1 h0.2 ht
 by_cases h1 : 20 ≤ n ∧ n ≤ 25
 ·
  exact implOT_g20 n w h1.1 h1.2 ht
 by_cases h2 : 30 ≤ n ∧ n ≤ 35
 ·
  exact implOT_g30 n w h2.1 h2.2 ht
 by_cases h3 : 40 ≤ n ∧ n ≤ 47
 ·
  exact implOT_g40 n w h3.1 h3.2 ht
 by_cases h4 : 50 ≤ n ∧ n ≤ 54
 ·
  exact implOT_g50 n w h4.1 h4.2 ht
 by_cases h5 : 60 ≤ n ∧ n ≤ 63
 ·
  exact implOT_g60 n w h5.1 h5.2 ht
 by_cases h6 : 70 ≤ n ∧ n ≤ 79
 ·
  exact implOT_g70 n w h6.1 h6.2 ht
 by_cases h7 : n = 81
 ·
  subst h7; exact implOT_81 w
 by_cases q0 : n ≤ 0
 ·
  exact implOT_gap0 n w q0
 by_cases q1 : 12 ≤ n ∧ n ≤ 19
 ·
  exact implOT_gap1 n w q1.1 q1.2
 by_cases q2 : 26 ≤ n ∧ n ≤ 29
 ·
  exact implOT_gap2 n w q2.1 q2.2
 by_cases q3 : 36 ≤ n ∧ n ≤ 39
 ·
  exact implOT_gap3 n w q3.1 q3.2
 by_cases q4 : 48 ≤ n ∧ n ≤ 49
 ·
  exact implOT_gap4 n w q4.1 q4.2
 by_cases q5 : 55 ≤ n ∧ n ≤ 59
 ·
  exact implOT_gap5 n w q5.1 q5.2
 by_cases q6 : 64 ≤ n ∧ n ≤ 69
 ·
  exact implOT_gap6 n w q6.1 q6.2
 by_cases q7 : 80 ≤ n ∧ n ≤ 80
 ·
  exact implOT_gap7 n w q7.1 q7.2
 by_cases q8 : 82 ≤ n ∧ n ≤ 219
 ·
  exact implOT_gap8 n w q8.1 q8.2
 by_cases q9 : 226 ≤ n ∧ n ≤ 249
 ·
  exact implOT_gap9 n w q9.1 q9.2
 by_cases q10 : 255 ≤ n
 ·
  exact implOT_gap10 n w q10
 exfalso; omega
theorem opT_size (n : Int) : (opT0 n).size ≤ 5 := by
 have ho : ∀ (l : List ByteArray) (i : Nat), (l.all fun s => decide (s.size ≤ 5)) = true → (l.getD i ByteArray.empty).size ≤ 5 := by
  intro l i hl
  by_cases hi : i < l.length
  ·
   rw [getD_lt _ _ hi]
   simpa using List.all_eq_true.1 hl _ (List.getElem_mem hi)
  ·
   rw [show l.getD i ByteArray.empty = ByteArray.empty by simp [List.getD, List.getElem?_eq_none (Nat.le_of_not_lt hi)]]
   decide
 unfold opT0
 split
 ·
  exact ho _ _ (by decide +kernel)
 split
 ·
  exact ho _ _ (by decide +kernel)
 split
 ·
  exact ho _ _ (by decide +kernel)
 split <;> decide
set_option maxHeartbeats 400000 in
theorem implOperatorText_any (n : Int) (w : World) (ht : Sp w) :
  Calls Tryz.prog 99 #[.int .i64 n] w fun e w' => e = .returned (.string (opT n)) ∧ Bel w w' := by
 by_cases hb : opBig n
 ·
  have hb' := hb
  unfold opBig at hb'
  have e0 : opT n = opT0 (n - 200) ++ ⟨#[58, 61]⟩ := by unfold opT; rw [if_pos hb]
  rw [e0]
  have hs := opT_size (n - 200)
  have hw : IntKind.i64.wrap (n - 200) = n - 200 := by rw [IntKind.wrap_i64]; omega
  have hR := implOT_0 (n - 200) w ht (by unfold opBig; omega)
  rcases hb' with ⟨g0, g1⟩ | ⟨g0, g1⟩
  all_goals
   go_enter Tryz.func99, Tryz.ntmps99
   go_wp2_with (go_at_call 99; refine hR.mono ?_; rintro e w1 ⟨rfl, hb1⟩)
   all_goals
    go_returns
    exact ⟨rfl, bl⟩
 ·
  have e0 : opT n = opT0 n := by unfold opT; rw [if_neg hb]
  rw [e0]
  exact implOT_0 n w ht hb
end Go.Proofs.YtgofbnmablgedaaGreatDoor
