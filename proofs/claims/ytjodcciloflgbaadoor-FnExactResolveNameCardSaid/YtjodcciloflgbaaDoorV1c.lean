/- The text of a set: the program. -/
import Derived.Test.YtjodcciloflgbaaDoorV0
import Derived.Deep.QuietTactic
import Derived.BigQuiet
namespace Go.Proofs.YtjodcciloflgbaaDoor
set_option linter.unusedVariables false
set_option linter.unusedSimpArgs false
set_option maxRecDepth 100000
open Go.RowKit

set_option maxHeartbeats 1000000 in
theorem isCset_any (s : ByteArray) (w : World) (hs : s.size ≤ maxLen) :
    Calls Tryd.prog 85 #[.string s] w fun e w' => e = .returned (.bool (ascB s)) ∧ Bel w w' := by
  unfold maxLen at hs
  go_enter Tryd.func85, Tryd.ntmps85
  go_wp2_with (fail)
  go_loopw [3] (fun v wr => ∃ k : Nat, v = .int .i64 k ∧ k ≤ s.size ∧ Hid (∀ j, j < k → ascAt s j = true) ∧ Bel w wr) (fun v _ => s.size - (intOf v).toNat)
  case atStart => exact ⟨0, rfl, by omega, fun j hj => by omega, bl⟩
  case round =>
    obtain ⟨k, rfl, hk, hA, hbw⟩ := hrel
    by_cases h1 : k < s.size
    · have hd : decide ((k : Int) < (s.size : Int)) = true := by simp; omega
      have hB := hide (byteAt_eq s k h1)
      by_cases h2 : byteAt s k ≤ 127
      · have h3 : s[k].toNat ≤ 127 := by rw [hB.out]; exact h2
        have d3 : decide (127 < s[k].toNat) = false := by simp; omega
        have d3i : decide ((127 : Int) < (s[k].toNat : Int)) = false := by simp; omega
        rcases Nat.eq_zero_or_pos k with h0 | h0
        · subst h0
          have HN := hide (show ascAt s 0 = true by unfold ascAt; rw [decide_eq_true h2]; rfl)
          go_wp2_with (fail)
          go_quiet (fail)
          go_wp2_with (fail)
          go_roundw
          case rel => exact ⟨1, by go_num, by omega, hide (fun j hj => by obtain rfl : j = 0 := by omega
                                                                          exact HN.out), bl⟩
          case measure => simp [intOf]; omega
        · have h4 : k - 1 < s.size := by omega
          have hB4 := hide (byteAt_eq s (k - 1) h4)
          have d0 : decide ((0 : Int) < (k : Int)) = true := by simp; omega
          have d0n : decide (0 < k) = true := by simp; omega
          have ek : (k : Int) - 1 = ((k - 1 : Nat) : Int) := by omega
          by_cases h5 : byteAt s (k - 1) < byteAt s k
          · have HN := hide (show ascAt s k = true by unfold ascAt; rw [decide_eq_true h2, decide_eq_true h5]; simp)
            have d5 : decide (s[k].toNat ≤ s[k - 1].toNat) = false := by rw [hB.out, hB4.out]; simp; omega
            have d5i : decide ((s[k].toNat : Int) ≤ (s[k - 1].toNat : Int)) = false := by rw [hB.out, hB4.out]; simp; omega
            go_wp2_with (fail)
            go_quiet (fail)
            go_wp2_with (fail)
            go_roundw
            case rel => exact ⟨k + 1, by go_num, by omega, hide (fun j hj => by
              by_cases e : j = k
              · subst e; exact HN.out
              · exact hA.out j (by omega)), bl⟩
            case measure => simp [intOf]; omega
          · have HN := hide (ascB_no h1 (show ascAt s k = false by unfold ascAt; rw [decide_eq_false h5, decide_eq_false (show ¬ k = 0 by omega)]; simp))
            have d5 : decide (s[k].toNat ≤ s[k - 1].toNat) = true := by rw [hB.out, hB4.out]; simp; omega
            have d5i : decide ((s[k].toNat : Int) ≤ (s[k - 1].toNat : Int)) = true := by rw [hB.out, hB4.out]; simp; omega
            go_wp2_with (fail)
            go_quiet (fail)
            go_wp2_with (fail)
            all_goals
              go_returns
              exact ⟨by rw [HN.out]; first | done | rfl, bl⟩
      · have h3 : 127 < s[k].toNat := by rw [hB.out]; omega
        have d3 : decide (127 < s[k].toNat) = true := by simp; omega
        have d3i : decide ((127 : Int) < (s[k].toNat : Int)) = true := by simp; omega
        have HN := hide (ascB_no h1 (show ascAt s k = false by unfold ascAt; rw [decide_eq_false h2]; rfl))
        go_wp2_with (fail)
        go_quiet (fail)
        go_wp2_with (fail)
        all_goals
          go_returns
          exact ⟨by rw [HN.out]; first | done | rfl, bl⟩
    · have hd : decide ((k : Int) < (s.size : Int)) = false := by simp; omega
      have HN := hide (show ascB s = true from List.all_eq_true.2 fun j hj => hA.out j (by have := List.mem_range.1 hj; omega))
      go_wp2_with (fail)
      all_goals
        go_returns
        exact ⟨by rw [HN.out]; first | done | rfl, bl⟩
end Go.Proofs.YtjodcciloflgbaaDoor
