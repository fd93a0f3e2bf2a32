/- OperatorArity, both sides. -/
import Derived.Test.YtgofbnmablgedaaGreatDoorPE5
namespace Go.Proofs.YtgofbnmablgedaaGreatDoor
set_option linter.unusedVariables false
set_option linter.unusedSimpArgs false
set_option maxRecDepth 100000
open Go.RowKit
def opArity (n : Int) : Int × Int :=
 if opT n = ByteArray.empty then (0, -1) else if n ≤ 11 ∨ n = 81 then (1, 1) else if n = 71 ∨ n = 72 then (3, 3) else if n = 73 then (2, 8) else if n = 74 then (0, 8) else (2, 2)
set_option maxHeartbeats 8000000 in
theorem specOperatorArity_any (n : Int) (w : World) :
  Calls Tryz.prog 88 #[.int .i64 n] w fun e w' => e = .returned (.tuple #[.int .i64 (opArity n).1, .int .i64 (opArity n).2]) ∧ Bel w w' := by
 by_cases h0 : opT n = ByteArray.empty
 ·
  rw [show opArity n = (0, -1) by unfold opArity; rw [if_pos h0]]
  go_enter Tryz.func88, Tryz.ntmps88
  go_wp2_with (go_at_call 96; refine (specOperatorText_any _ _).mono ?_; rintro e w1 ⟨rfl, hb1⟩; rw [h0])
  all_goals
   go_returns
   exact ⟨rfl, bl⟩
 ·
  have hd : (opT n).toList.isEmpty = false := by
   cases hx : (opT n).toList.isEmpty
   ·
    rfl
   ·
    exact absurd ((ba_eq (opT n) ByteArray.empty).1 (by rw [List.isEmpty_iff.1 hx, ByteArray.toList_eq]; rfl)) h0
  have hA : opArity n = if n ≤ 11 ∨ n = 81 then (1, 1) else if n = 71 ∨ n = 72 then (3, 3) else if n = 73 then (2, 8) else if n = 74 then (0, 8) else (2, 2) := by unfold opArity; rw [if_neg h0]
  rcases (by omega : (n ≤ 11) ∨ n = 81 ∨ n = 71 ∨ n = 72 ∨ n = 73 ∨ n = 74 ∨ (12 ≤ n ∧ n ≤ 70) ∨ (75 ≤ n ∧ n ≤ 80) ∨ 82 ≤ n) with c | rfl | rfl | rfl | rfl | rfl | ⟨c, c2⟩ | ⟨c, c2⟩ | c
  all_goals
   first
    | rw [hA, if_pos (by omega)]
    | rw [hA, if_neg (by omega), if_pos (by omega)]
    | rw [hA, if_neg (by omega), if_neg (by omega), if_pos (by omega)]
    | rw [hA, if_neg (by omega), if_neg (by omega), if_neg (by omega), if_pos (by omega)]
    | rw [hA, if_neg (by omega), if_neg (by omega), if_neg (by omega), if_neg (by omega)]
   clear hA
   try have e71 : (n == 71) = false := (by simp; omega)
   try have e72 : (n == 72) = false := (by simp; omega)
   try have e73 : (n == 73) = false := (by simp; omega)
   try have e74 : (n == 74) = false := (by simp; omega)
   try have e81 : (n == 81) = false := (by simp; omega)
   go_enter Tryz.func88, Tryz.ntmps88
   go_wp2_with (go_at_call 96; refine (specOperatorText_any _ _).mono ?_; rintro e w1 ⟨rfl, hb1⟩)
   all_goals
    go_returns
    exact ⟨rfl, bl⟩
set_option maxHeartbeats 8000000 in
theorem implOperatorArity_any (n : Int) (w : World) (ht : Sp w) :
  Calls Tryz.prog 94 #[.int .i64 n] w fun e w' => e = .returned (.tuple #[.int .i64 (opArity n).1, .int .i64 (opArity n).2]) ∧ Bel w w' := by
 by_cases h0 : opT n = ByteArray.empty
 ·
  rw [show opArity n = (0, -1) by unfold opArity; rw [if_pos h0]]
  go_enter Tryz.func94, Tryz.ntmps94
  go_wp2_with (go_at_call 99; refine (implOperatorText_any _ _ ht).mono ?_; rintro e w1 ⟨rfl, hb1⟩; rw [h0])
  all_goals
   go_returns
   exact ⟨rfl, bl⟩
 ·
  have hd : (opT n).toList.isEmpty = false := by
   cases hx : (opT n).toList.isEmpty
   ·
    rfl
   ·
    exact absurd ((ba_eq (opT n) ByteArray.empty).1 (by rw [List.isEmpty_iff.1 hx, ByteArray.toList_eq]; rfl)) h0
  have hA : opArity n = if n ≤ 11 ∨ n = 81 then (1, 1) else if n = 71 ∨ n = 72 then (3, 3) else if n = 73 then (2, 8) else if n = 74 then (0, 8) else (2, 2) := by unfold opArity; rw [if_neg h0]
  rcases (by omega : (n ≤ 11) ∨ n = 81 ∨ n = 71 ∨ n = 72 ∨ n = 73 ∨ n = 74 ∨ (12 ≤ n ∧ n ≤ 70) ∨ (75 ≤ n ∧ n ≤ 80) ∨ 82 ≤ n) with c | rfl | rfl | rfl | rfl | rfl | ⟨c, c2⟩ | ⟨c, c2⟩ | c
  all_goals
   first
    | rw [hA, if_pos (by omega)]
    | rw [hA, if_neg (by omega), if_pos (by omega)]
    | rw [hA, if_neg (by omega), if_neg (by omega), if_pos (by omega)]
    | rw [hA, if_neg (by omega), if_neg (by omega), if_neg (by omega), if_pos (by omega)]
    | rw [hA, if_neg (by omega), if_neg (by omega), if_neg (by omega), if_neg (by omega)]
   clear hA
   try have e71 : (n == 71) = false := (by simp; omega)
   try have e72 : (n == 72) = false := (by simp; omega)
   try have e73 : (n == 73) = false := (by simp; omega)
   try have e74 : (n == 74) = false := (by simp; omega)
   try have e81 : (n == 81) = false := (by simp; omega)
   go_enter Tryz.func94, Tryz.ntmps94
   go_wp2_with (go_at_call 99; refine (implOperatorText_any _ _ ht).mono ?_; rintro e w1 ⟨rfl, hb1⟩)
   all_goals
    go_returns
    exact ⟨rfl, bl⟩
end Go.Proofs.YtgofbnmablgedaaGreatDoor
