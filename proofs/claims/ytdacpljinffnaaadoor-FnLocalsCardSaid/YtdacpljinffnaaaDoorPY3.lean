/- Expressions: how many kids a node has; its text: both sides. -/
import Derived.Test.YtdacpljinffnaaaDoorPV0
import Derived.Test.YtdacpljinffnaaaDoorPY1
import Derived.Test.YtdacpljinffnaaaDoorPBits
import Derived.Deep.RegionHeld3
import Derived.Deep.Cut
import Derived.Deep.CutBlock
import Derived.OwnWalk
namespace Go.Proofs.YtdacpljinffnaaaDoor
set_option linter.unusedVariables false
set_option linter.unusedSimpArgs false
set_option maxRecDepth 100000
open Go.RowKit
set_option maxHeartbeats 1000000 in
theorem l6Counts_any (k : Int) (n li : Int) (t : ByteArray) (A : Option Addr) (m c : Nat) (w : World) :
  Calls Tryd.prog 40 #[.agg #[.int .i64 k, .string t, .int .i64 n, .int .i64 li, .slice A m c]] w fun e w' => e = .returned (.tuple #[.int .i64 (lohiE k).1, .int .i64 (lohiE k).2]) ∧ Bel w w' := by
 rcases (by omega : k = 6 ∨ k = 7 ∨ k = 13 ∨ k = 19 ∨ k = 26 ∨ k = 27 ∨ k = 8 ∨ k = 11 ∨ k = 9 ∨ k = 15 ∨ k = 10 ∨ k = 12 ∨ k = 14 ∨ k = 16 ∨ k = 17 ∨ k = 18 ∨ k = 20 ∨ k = 21 ∨ k = 24 ∨ k = 22 ∨ k = 29 ∨ (k ≠ 6 ∧ k ≠ 7 ∧ k ≠ 13 ∧ k ≠ 19 ∧ k ≠ 26 ∧ k ≠ 27 ∧ k ≠ 8 ∧ k ≠ 11 ∧ k ≠ 9 ∧ k ≠ 15 ∧ k ≠ 10 ∧ k ≠ 12 ∧ k ≠ 14 ∧ k ≠ 16 ∧ k ≠ 17 ∧ k ≠ 18 ∧ k ≠ 20 ∧ k ≠ 21 ∧ k ≠ 24 ∧ k ≠ 22 ∧ k ≠ 29)) with rfl | rfl | rfl | rfl | rfl | rfl | rfl | rfl | rfl | rfl | rfl | rfl | rfl | rfl | rfl | rfl | rfl | rfl | rfl | rfl | rfl | ⟨h6, h7, h13, h19, h26, h27, h8, h11, h9, h15, h10, h12, h14, h16, h17, h18, h20, h21, h24, h22, h29⟩
 ·
  rw [show lohiE 6 = (0, 8) by unfold lohiE; simp]
  go_enter Tryd.func40, Tryd.ntmps40
  go_wp2_with (fail)
  all_goals
   go_returns
   exact ⟨rfl, bl⟩
 ·
  rw [show lohiE 7 = (1, 1) by unfold lohiE; simp]
  go_enter Tryd.func40, Tryd.ntmps40
  go_wp2_with (fail)
  all_goals
   go_returns
   exact ⟨rfl, bl⟩
 ·
  rw [show lohiE 13 = (1, 1) by unfold lohiE; simp]
  go_enter Tryd.func40, Tryd.ntmps40
  go_wp2_with (fail)
  all_goals
   go_returns
   exact ⟨rfl, bl⟩
 ·
  rw [show lohiE 19 = (1, 1) by unfold lohiE; simp]
  go_enter Tryd.func40, Tryd.ntmps40
  go_wp2_with (fail)
  all_goals
   go_returns
   exact ⟨rfl, bl⟩
 ·
  rw [show lohiE 26 = (1, 1) by unfold lohiE; simp]
  go_enter Tryd.func40, Tryd.ntmps40
  go_wp2_with (fail)
  all_goals
   go_returns
   exact ⟨rfl, bl⟩
 ·
  rw [show lohiE 27 = (1, 1) by unfold lohiE; simp]
  go_enter Tryd.func40, Tryd.ntmps40
  go_wp2_with (fail)
  all_goals
   go_returns
   exact ⟨rfl, bl⟩
 ·
  rw [show lohiE 8 = (2, 2) by unfold lohiE; simp]
  go_enter Tryd.func40, Tryd.ntmps40
  go_wp2_with (fail)
  all_goals
   go_returns
   exact ⟨rfl, bl⟩
 ·
  rw [show lohiE 11 = (2, 2) by unfold lohiE; simp]
  go_enter Tryd.func40, Tryd.ntmps40
  go_wp2_with (fail)
  all_goals
   go_returns
   exact ⟨rfl, bl⟩
 ·
  rw [show lohiE 9 = (2, 3) by unfold lohiE; simp]
  go_enter Tryd.func40, Tryd.ntmps40
  go_wp2_with (fail)
  all_goals
   go_returns
   exact ⟨rfl, bl⟩
 ·
  rw [show lohiE 15 = (2, 3) by unfold lohiE; simp]
  go_enter Tryd.func40, Tryd.ntmps40
  go_wp2_with (fail)
  all_goals
   go_returns
   exact ⟨rfl, bl⟩
 ·
  rw [show lohiE 10 = (1, 9) by unfold lohiE; simp]
  go_enter Tryd.func40, Tryd.ntmps40
  go_wp2_with (fail)
  all_goals
   go_returns
   exact ⟨rfl, bl⟩
 ·
  rw [show lohiE 12 = (3, 3) by unfold lohiE; simp]
  go_enter Tryd.func40, Tryd.ntmps40
  go_wp2_with (fail)
  all_goals
   go_returns
   exact ⟨rfl, bl⟩
 ·
  rw [show lohiE 14 = (0, 24) by unfold lohiE; simp]
  go_enter Tryd.func40, Tryd.ntmps40
  go_wp2_with (fail)
  all_goals
   go_returns
   exact ⟨rfl, bl⟩
 ·
  rw [show lohiE 16 = (1, 2) by unfold lohiE; simp]
  go_enter Tryd.func40, Tryd.ntmps40
  go_wp2_with (fail)
  all_goals
   go_returns
   exact ⟨rfl, bl⟩
 ·
  rw [show lohiE 17 = (1, 2) by unfold lohiE; simp]
  go_enter Tryd.func40, Tryd.ntmps40
  go_wp2_with (fail)
  all_goals
   go_returns
   exact ⟨rfl, bl⟩
 ·
  rw [show lohiE 18 = (1, 2) by unfold lohiE; simp]
  go_enter Tryd.func40, Tryd.ntmps40
  go_wp2_with (fail)
  all_goals
   go_returns
   exact ⟨rfl, bl⟩
 ·
  rw [show lohiE 20 = (1, 14) by unfold lohiE; simp]
  go_enter Tryd.func40, Tryd.ntmps40
  go_wp2_with (fail)
  all_goals
   go_returns
   exact ⟨rfl, bl⟩
 ·
  rw [show lohiE 21 = (0, 1) by unfold lohiE; simp]
  go_enter Tryd.func40, Tryd.ntmps40
  go_wp2_with (fail)
  all_goals
   go_returns
   exact ⟨rfl, bl⟩
 ·
  rw [show lohiE 24 = (0, 1) by unfold lohiE; simp]
  go_enter Tryd.func40, Tryd.ntmps40
  go_wp2_with (fail)
  all_goals
   go_returns
   exact ⟨rfl, bl⟩
 ·
  rw [show lohiE 22 = (0, 2) by unfold lohiE; simp]
  go_enter Tryd.func40, Tryd.ntmps40
  go_wp2_with (fail)
  all_goals
   go_returns
   exact ⟨rfl, bl⟩
 ·
  rw [show lohiE 29 = (2, 8) by unfold lohiE; simp]
  go_enter Tryd.func40, Tryd.ntmps40
  go_wp2_with (fail)
  all_goals
   go_returns
   exact ⟨rfl, bl⟩
 ·
  rw [show lohiE k = (0, 0) by unfold lohiE; simp [h6, h7, h13, h19, h26, h27, h8, h11, h9, h15, h10, h12, h14, h16, h17, h18, h20, h21, h24, h22, h29]]
  have e6 : (k == 6) = false := by rw [beq_eq_false_iff_ne]; exact h6
  have e7 : (k == 7) = false := by rw [beq_eq_false_iff_ne]; exact h7
  have e13 : (k == 13) = false := by rw [beq_eq_false_iff_ne]; exact h13
  have e19 : (k == 19) = false := by rw [beq_eq_false_iff_ne]; exact h19
  have e26 : (k == 26) = false := by rw [beq_eq_false_iff_ne]; exact h26
  have e27 : (k == 27) = false := by rw [beq_eq_false_iff_ne]; exact h27
  have e8 : (k == 8) = false := by rw [beq_eq_false_iff_ne]; exact h8
  have e11 : (k == 11) = false := by rw [beq_eq_false_iff_ne]; exact h11
  have e9 : (k == 9) = false := by rw [beq_eq_false_iff_ne]; exact h9
  have e15 : (k == 15) = false := by rw [beq_eq_false_iff_ne]; exact h15
  have e10 : (k == 10) = false := by rw [beq_eq_false_iff_ne]; exact h10
  have e12 : (k == 12) = false := by rw [beq_eq_false_iff_ne]; exact h12
  have e14 : (k == 14) = false := by rw [beq_eq_false_iff_ne]; exact h14
  have e16 : (k == 16) = false := by rw [beq_eq_false_iff_ne]; exact h16
  have e17 : (k == 17) = false := by rw [beq_eq_false_iff_ne]; exact h17
  have e18 : (k == 18) = false := by rw [beq_eq_false_iff_ne]; exact h18
  have e20 : (k == 20) = false := by rw [beq_eq_false_iff_ne]; exact h20
  have e21 : (k == 21) = false := by rw [beq_eq_false_iff_ne]; exact h21
  have e24 : (k == 24) = false := by rw [beq_eq_false_iff_ne]; exact h24
  have e22 : (k == 22) = false := by rw [beq_eq_false_iff_ne]; exact h22
  have e29 : (k == 29) = false := by rw [beq_eq_false_iff_ne]; exact h29
  clear h6 h7 h13 h19 h26 h27 h8 h11 h9 h15 h10 h12 h14 h16 h17 h18 h20 h21 h24 h22 h29
  go_enter Tryd.func40, Tryd.ntmps40
  go_wp2_with (fail)
  all_goals
   go_returns
   exact ⟨rfl, bl⟩
set_option maxHeartbeats 1000000 in
theorem exprKids_any (k : Int) (w : World) :
  Calls Tryd.prog 59 #[.int .i64 k] w fun e w' => e = .returned (.tuple #[.int .i64 (lohiE k).1, .int .i64 (lohiE k).2]) ∧ Bel w w' := by
 rcases (by omega : k = 6 ∨ k = 7 ∨ k = 13 ∨ k = 19 ∨ k = 26 ∨ k = 27 ∨ k = 8 ∨ k = 11 ∨ k = 9 ∨ k = 15 ∨ k = 10 ∨ k = 12 ∨ k = 14 ∨ k = 16 ∨ k = 17 ∨ k = 18 ∨ k = 20 ∨ k = 21 ∨ k = 24 ∨ k = 22 ∨ k = 29 ∨ (k ≠ 6 ∧ k ≠ 7 ∧ k ≠ 13 ∧ k ≠ 19 ∧ k ≠ 26 ∧ k ≠ 27 ∧ k ≠ 8 ∧ k ≠ 11 ∧ k ≠ 9 ∧ k ≠ 15 ∧ k ≠ 10 ∧ k ≠ 12 ∧ k ≠ 14 ∧ k ≠ 16 ∧ k ≠ 17 ∧ k ≠ 18 ∧ k ≠ 20 ∧ k ≠ 21 ∧ k ≠ 24 ∧ k ≠ 22 ∧ k ≠ 29)) with rfl | rfl | rfl | rfl | rfl | rfl | rfl | rfl | rfl | rfl | rfl | rfl | rfl | rfl | rfl | rfl | rfl | rfl | rfl | rfl | rfl | ⟨h6, h7, h13, h19, h26, h27, h8, h11, h9, h15, h10, h12, h14, h16, h17, h18, h20, h21, h24, h22, h29⟩
 ·
  rw [show lohiE 6 = (0, 8) by unfold lohiE; simp]
  go_enter Tryd.func59, Tryd.ntmps59
  go_wp2_with (fail)
  all_goals
   go_returns
   exact ⟨rfl, bl⟩
 ·
  rw [show lohiE 7 = (1, 1) by unfold lohiE; simp]
  go_enter Tryd.func59, Tryd.ntmps59
  go_wp2_with (fail)
  all_goals
   go_returns
   exact ⟨rfl, bl⟩
 ·
  rw [show lohiE 13 = (1, 1) by unfold lohiE; simp]
  go_enter Tryd.func59, Tryd.ntmps59
  go_wp2_with (fail)
  all_goals
   go_returns
   exact ⟨rfl, bl⟩
 ·
  rw [show lohiE 19 = (1, 1) by unfold lohiE; simp]
  go_enter Tryd.func59, Tryd.ntmps59
  go_wp2_with (fail)
  all_goals
   go_returns
   exact ⟨rfl, bl⟩
 ·
  rw [show lohiE 26 = (1, 1) by unfold lohiE; simp]
  go_enter Tryd.func59, Tryd.ntmps59
  go_wp2_with (fail)
  all_goals
   go_returns
   exact ⟨rfl, bl⟩
 ·
  rw [show lohiE 27 = (1, 1) by unfold lohiE; simp]
  go_enter Tryd.func59, Tryd.ntmps59
  go_wp2_with (fail)
  all_goals
   go_returns
   exact ⟨rfl, bl⟩
 ·
  rw [show lohiE 8 = (2, 2) by unfold lohiE; simp]
  go_enter Tryd.func59, Tryd.ntmps59
  go_wp2_with (fail)
  all_goals
   go_returns
   exact ⟨rfl, bl⟩
 ·
  rw [show lohiE 11 = (2, 2) by unfold lohiE; simp]
  go_enter Tryd.func59, Tryd.ntmps59
  go_wp2_with (fail)
  all_goals
   go_returns
   exact ⟨rfl, bl⟩
 ·
  rw [show lohiE 9 = (2, 3) by unfold lohiE; simp]
  go_enter Tryd.func59, Tryd.ntmps59
  go_wp2_with (fail)
  all_goals
   go_returns
   exact ⟨rfl, bl⟩
 ·
  rw [show lohiE 15 = (2, 3) by unfold lohiE; simp]
  go_enter Tryd.func59, Tryd.ntmps59
  go_wp2_with (fail)
  all_goals
   go_returns
   exact ⟨rfl, bl⟩
 ·
  rw [show lohiE 10 = (1, 9) by unfold lohiE; simp]
  go_enter Tryd.func59, Tryd.ntmps59
  go_wp2_with (fail)
  all_goals
   go_returns
   exact ⟨rfl, bl⟩
 ·
  rw [show lohiE 12 = (3, 3) by unfold lohiE; simp]
  go_enter Tryd.func59, Tryd.ntmps59
  go_wp2_with (fail)
  all_goals
   go_returns
   exact ⟨rfl, bl⟩
 ·
  rw [show lohiE 14 = (0, 24) by unfold lohiE; simp]
  go_enter Tryd.func59, Tryd.ntmps59
  go_wp2_with (fail)
  all_goals
   go_returns
   exact ⟨rfl, bl⟩
 ·
  rw [show lohiE 16 = (1, 2) by unfold lohiE; simp]
  go_enter Tryd.func59, Tryd.ntmps59
  go_wp2_with (fail)
  all_goals
   go_returns
   exact ⟨rfl, bl⟩
 ·
  rw [show lohiE 17 = (1, 2) by unfold lohiE; simp]
  go_enter Tryd.func59, Tryd.ntmps59
  go_wp2_with (fail)
  all_goals
   go_returns
   exact ⟨rfl, bl⟩
 ·
  rw [show lohiE 18 = (1, 2) by unfold lohiE; simp]
  go_enter Tryd.func59, Tryd.ntmps59
  go_wp2_with (fail)
  all_goals
   go_returns
   exact ⟨rfl, bl⟩
 ·
  rw [show lohiE 20 = (1, 14) by unfold lohiE; simp]
  go_enter Tryd.func59, Tryd.ntmps59
  go_wp2_with (fail)
  all_goals
   go_returns
   exact ⟨rfl, bl⟩
 ·
  rw [show lohiE 21 = (0, 1) by unfold lohiE; simp]
  go_enter Tryd.func59, Tryd.ntmps59
  go_wp2_with (fail)
  all_goals
   go_returns
   exact ⟨rfl, bl⟩
 ·
  rw [show lohiE 24 = (0, 1) by unfold lohiE; simp]
  go_enter Tryd.func59, Tryd.ntmps59
  go_wp2_with (fail)
  all_goals
   go_returns
   exact ⟨rfl, bl⟩
 ·
  rw [show lohiE 22 = (0, 2) by unfold lohiE; simp]
  go_enter Tryd.func59, Tryd.ntmps59
  go_wp2_with (fail)
  all_goals
   go_returns
   exact ⟨rfl, bl⟩
 ·
  rw [show lohiE 29 = (2, 8) by unfold lohiE; simp]
  go_enter Tryd.func59, Tryd.ntmps59
  go_wp2_with (fail)
  all_goals
   go_returns
   exact ⟨rfl, bl⟩
 ·
  rw [show lohiE k = (0, 0) by unfold lohiE; simp [h6, h7, h13, h19, h26, h27, h8, h11, h9, h15, h10, h12, h14, h16, h17, h18, h20, h21, h24, h22, h29]]
  have e6 : (k == 6) = false := by rw [beq_eq_false_iff_ne]; exact h6
  have e7 : (k == 7) = false := by rw [beq_eq_false_iff_ne]; exact h7
  have e13 : (k == 13) = false := by rw [beq_eq_false_iff_ne]; exact h13
  have e19 : (k == 19) = false := by rw [beq_eq_false_iff_ne]; exact h19
  have e26 : (k == 26) = false := by rw [beq_eq_false_iff_ne]; exact h26
  have e27 : (k == 27) = false := by rw [beq_eq_false_iff_ne]; exact h27
  have e8 : (k == 8) = false := by rw [beq_eq_false_iff_ne]; exact h8
  have e11 : (k == 11) = false := by rw [beq_eq_false_iff_ne]; exact h11
  have e9 : (k == 9) = false := by rw [beq_eq_false_iff_ne]; exact h9
  have e15 : (k == 15) = false := by rw [beq_eq_false_iff_ne]; exact h15
  have e10 : (k == 10) = false := by rw [beq_eq_false_iff_ne]; exact h10
  have e12 : (k == 12) = false := by rw [beq_eq_false_iff_ne]; exact h12
  have e14 : (k == 14) = false := by rw [beq_eq_false_iff_ne]; exact h14
  have e16 : (k == 16) = false := by rw [beq_eq_false_iff_ne]; exact h16
  have e17 : (k == 17) = false := by rw [beq_eq_false_iff_ne]; exact h17
  have e18 : (k == 18) = false := by rw [beq_eq_false_iff_ne]; exact h18
  have e20 : (k == 20) = false := by rw [beq_eq_false_iff_ne]; exact h20
  have e21 : (k == 21) = false := by rw [beq_eq_false_iff_ne]; exact h21
  have e24 : (k == 24) = false := by rw [beq_eq_false_iff_ne]; exact h24
  have e22 : (k == 22) = false := by rw [beq_eq_false_iff_ne]; exact h22
  have e29 : (k == 29) = false := by rw [beq_eq_false_iff_ne]; exact h29
  clear h6 h7 h13 h19 h26 h27 h8 h11 h9 h15 h10 h12 h14 h16 h17 h18 h20 h21 h24 h22 h29
  go_enter Tryd.func59, Tryd.ntmps59
  go_wp2_with (fail)
  all_goals
   go_returns
   exact ⟨rfl, bl⟩
set_option maxHeartbeats 4000000 in
theorem l6Words_any (k n li : Int) (t : ByteArray) (A : Option Addr) (m c : Nat) (w : World) (hts : t.size ≤ maxLen) :
  Calls Tryd.prog 65 #[.agg #[.int .i64 k, .string t, .int .i64 n, .int .i64 li, .slice A m c]] w fun e w' => e = .returned (.bool (txtE k t)) ∧ Bel w w' := by
 have HTS := hide hts
 unfold maxLen at hts
 rcases (by omega : k = 2 ∨ k = 3 ∨ k = 4 ∨ k = 13 ∨ k = 28 ∨ k = 5 ∨ k = 7 ∨ k = 8 ∨ (k ≠ 2 ∧ k ≠ 3 ∧ k ≠ 4 ∧ k ≠ 13 ∧ k ≠ 28 ∧ k ≠ 5 ∧ k ≠ 7 ∧ k ≠ 8)) with rfl | rfl | rfl | rfl | rfl | rfl | rfl | rfl | ⟨h2, h3, h4, h13, h28, h5, h7, h8⟩
 ·
  have HX := hide (show txtE 2 t = decide (t.size ≤ 120) by unfold txtE; simp)
  have hq : decide ((t.size : Int) ≤ 120) = decide (t.size ≤ 120) := by rw [decide_eq_decide]; omega
  go_enter Tryd.func65, Tryd.ntmps65
  go_wp2_with (fail)
  all_goals
   go_returns
   exact ⟨by rw [HX.out]; first | done | rfl | (rw [hq]), bl⟩
 ·
  have HX := hide (show txtE 3 t = ascB t by unfold txtE; simp)
  have HAC := hide (asc_cset t)
  cases hok : nsOk t
  case false => as_aux_lemma =>
   have HOK := hide hok
   have HR := hide (show ascB t = false by rw [← HAC.out, hok]; rfl)
   clear hok
   go_enter Tryd.func65, Tryd.ntmps65
   go_wp2_with (go_at_call 68; refine (specNewCset_any _ _ HTS.out).mono ?_; rintro e w3 ⟨rfl, hb3⟩; rw [HOK.out]; (have hz3 := hb3.sz; obtain ⟨hk3_0, hf3_0, hl3_0, hn3_0⟩ := hb3.lay (w.heap.size)))
   go_quiet (fail)
   go_wp2_with (fail)
   all_goals
    go_returns
    exact ⟨by rw [HX.out, HR.out]; first | done | rfl, bl⟩
  case true => as_aux_lemma =>
   have HOK := hide hok
   by_cases hcs : csText (nsLo t) (nsHi t) = t
   case pos => as_aux_lemma =>
    have HR := hide (show ascB t = true by rw [← HAC.out, hok, decide_eq_true hcs]; rfl)
    have hq1 : ((csText (nsLo t) (nsHi t)).toList == t.toList) = true := by rw [hcs]; simp
    clear hcs hok
    go_enter Tryd.func65, Tryd.ntmps65
    go_wp2_with (go_at_call 68; refine (specNewCset_any _ _ HTS.out).mono ?_; rintro e w3 ⟨rfl, hb3⟩; rw [HOK.out]; (have hz3 := hb3.sz; obtain ⟨hk3_0, hf3_0, hl3_0, hn3_0⟩ := hb3.lay (w.heap.size)))
    go_region_held3 (fun w' => w'.cell? ⟨w.heap.size, 1, none⟩ = some (.string t) ∧ w'.cell? ⟨w3.heap.size, 0, none⟩ = some (.int .i64 (nsLo t)) ∧ w'.cell? ⟨w3.heap.size, 1, none⟩ = some (.int .i64 (nsHi t))) (go_keep) (first | (go_at_call 56; refine (specCsetText_any _ _ _).mono ?_; rintro e w4 ⟨rfl, hb4⟩; (have hz4 := hb4.sz; obtain ⟨hk4_0, hf4_0, hl4_0, hn4_0⟩ := hb4.lay (w.heap.size); obtain ⟨hk4_1, hf4_1, hl4_1, hn4_1⟩ := hb4.lay (w3.heap.size))))
    all_goals (go_wp2_with (fail))
    all_goals
     go_returns
     exact ⟨by rw [HX.out, HR.out]; first | done | rfl, bl⟩
   case neg => as_aux_lemma =>
    have HR := hide (show ascB t = false by rw [← HAC.out, hok, decide_eq_false hcs]; rfl)
    have hq1 : ((csText (nsLo t) (nsHi t)).toList == t.toList) = false := by rw [beq_eq_false_iff_ne]; exact fun h => hcs ((ba_eq _ _).1 h)
    clear hcs hok
    go_enter Tryd.func65, Tryd.ntmps65
    go_wp2_with (go_at_call 68; refine (specNewCset_any _ _ HTS.out).mono ?_; rintro e w3 ⟨rfl, hb3⟩; rw [HOK.out]; (have hz3 := hb3.sz; obtain ⟨hk3_0, hf3_0, hl3_0, hn3_0⟩ := hb3.lay (w.heap.size)))
    go_region_held3 (fun w' => w'.cell? ⟨w.heap.size, 1, none⟩ = some (.string t) ∧ w'.cell? ⟨w3.heap.size, 0, none⟩ = some (.int .i64 (nsLo t)) ∧ w'.cell? ⟨w3.heap.size, 1, none⟩ = some (.int .i64 (nsHi t))) (go_keep) (first | (go_at_call 56; refine (specCsetText_any _ _ _).mono ?_; rintro e w4 ⟨rfl, hb4⟩; (have hz4 := hb4.sz; obtain ⟨hk4_0, hf4_0, hl4_0, hn4_0⟩ := hb4.lay (w.heap.size); obtain ⟨hk4_1, hf4_1, hl4_1, hn4_1⟩ := hb4.lay (w3.heap.size))))
    all_goals (go_wp2_with (fail))
    all_goals
     go_returns
     exact ⟨by rw [HX.out, HR.out]; first | done | rfl, bl⟩
 ·
  have HX := hide (show txtE 4 t = nameB t by unfold txtE; simp)
  go_enter Tryd.func65, Tryd.ntmps65
  go_wp2_with (go_at_call 33; refine (specIsName_any _ _).mono ?_; rintro e w1 ⟨rfl, hb1⟩)
  all_goals
   go_returns
   exact ⟨by rw [HX.out]; first | done | rfl | (rw [← hr]; done) | (rw [← hr]; rfl) | simp [← hr], bl⟩
 ·
  have HX := hide (show txtE 13 t = nameB t by unfold txtE; simp)
  go_enter Tryd.func65, Tryd.ntmps65
  go_wp2_with (go_at_call 33; refine (specIsName_any _ _).mono ?_; rintro e w1 ⟨rfl, hb1⟩)
  all_goals
   go_returns
   exact ⟨by rw [HX.out]; first | done | rfl | (rw [← hr]; done) | (rw [← hr]; rfl) | simp [← hr], bl⟩
 ·
  have HX := hide (show txtE 28 t = nameB t by unfold txtE; simp)
  go_enter Tryd.func65, Tryd.ntmps65
  go_wp2_with (go_at_call 33; refine (specIsName_any _ _).mono ?_; rintro e w1 ⟨rfl, hb1⟩)
  all_goals
   go_returns
   exact ⟨by rw [HX.out]; first | done | rfl | (rw [← hr]; done) | (rw [← hr]; rfl) | simp [← hr], bl⟩
 ·
  have HX := hide (show txtE 5 t = Lib.containsS keyL t by unfold txtE; simp)
  go_enter Tryd.func65, Tryd.ntmps65
  go_wp2_with (go_at_call 73; refine (specIsKeyword_any _ _).mono ?_; rintro e w1 ⟨rfl, hb1⟩)
  all_goals
   go_returns
   exact ⟨by rw [HX.out]; first | done | rfl | (rw [← hr]; done) | (rw [← hr]; rfl) | simp [← hr], bl⟩
 ·
  have HX := hide (show txtE 7 t = Lib.containsS unL t by unfold txtE; simp)
  go_enter Tryd.func65, Tryd.ntmps65
  go_wp2_with (go_at_call 74; refine (specIsUnary_any _ _).mono ?_; rintro e w1 ⟨rfl, hb1⟩)
  all_goals
   go_returns
   exact ⟨by rw [HX.out]; first | done | rfl | (rw [← hr]; done) | (rw [← hr]; rfl) | simp [← hr], bl⟩
 ·
  have HX := hide (show txtE 8 t = binB t by unfold txtE; simp)
  go_enter Tryd.func65, Tryd.ntmps65
  go_wp2_with (go_at_call 75; refine (specBinaryLevel_any _ _).mono ?_; rintro e w1 ⟨r, rfl, hr, hb1⟩)
  all_goals
   go_returns
   exact ⟨by rw [HX.out]; first | done | rfl | (rw [← hr]; done) | (rw [← hr]; rfl) | simp [← hr], bl⟩
 ·
  have HX := hide (show txtE k t = decide (t.size = 0) by unfold txtE; simp [h2, h3, h4, h13, h28, h5, h7, h8])
  have e2 : (k == 2) = false := by rw [beq_eq_false_iff_ne]; exact h2
  have e3 : (k == 3) = false := by rw [beq_eq_false_iff_ne]; exact h3
  have e4 : (k == 4) = false := by rw [beq_eq_false_iff_ne]; exact h4
  have e13 : (k == 13) = false := by rw [beq_eq_false_iff_ne]; exact h13
  have e28 : (k == 28) = false := by rw [beq_eq_false_iff_ne]; exact h28
  have e5 : (k == 5) = false := by rw [beq_eq_false_iff_ne]; exact h5
  have e7 : (k == 7) = false := by rw [beq_eq_false_iff_ne]; exact h7
  have e8 : (k == 8) = false := by rw [beq_eq_false_iff_ne]; exact h8
  clear h2 h3 h4 h13 h28 h5 h7 h8
  obtain ⟨bT, hT⟩ : ∃ bT, t.toList.isEmpty = bT := ⟨_, rfl⟩
  have HBT := hide (show decide (t.size = 0) = bT by rw [← hT, Bool.eq_iff_iff, decide_eq_true_eq]; exact tlE.symm)
  go_enter Tryd.func65, Tryd.ntmps65
  go_wp2_with (fail)
  all_goals
   go_returns
   exact ⟨by rw [HX.out, HBT.out]; first | done | rfl, bl⟩
end Go.Proofs.YtdacpljinffnaaaDoor
