/- The text of a set, and sets and texts in quotes: both sides. -/
import Derived.Test.YtpcimcamjlbagaaDoorQb
import Derived.Test.YtpcimcamjlbagaaDoorA3
namespace Go.Proofs.YtpcimcamjlbagaaDoor
set_option linter.unusedVariables false
set_option linter.unusedSimpArgs false
set_option maxRecDepth 100000
open Go.RowKit

def csL (lo hi : Int) : Nat → List Nat
  | 0 => []
  | k + 1 => csL lo hi k ++ (if hasBit lo hi k then [k] else [])
theorem csL_len (lo hi : Int) : ∀ k, (csL lo hi k).length ≤ k
  | 0 => by simp [csL]
  | k + 1 => by
    have := csL_len lo hi k
    simp only [csL, List.length_append]
    split <;> simp <;> omega
theorem csL_lt (lo hi : Int) : ∀ k, ∀ x ∈ csL lo hi k, x < k
  | 0 => by simp [csL]
  | k + 1 => by
    intro x hx
    simp only [csL, List.mem_append] at hx
    rcases hx with hx | hx
    · have := csL_lt lo hi k x hx; omega
    · split at hx
      · simp at hx; omega
      · simp at hx
theorem csL_yes {lo hi : Int} {k : Nat} (h : hasBit lo hi k = true) : csL lo hi (k + 1) = csL lo hi k ++ [k] := by simp [csL, h]
theorem csL_no {lo hi : Int} {k : Nat} (h : hasBit lo hi k = false) : csL lo hi (k + 1) = csL lo hi k := by simp [csL, h]
/-- The text of a set. -/
def csT (lo hi : Int) : ByteArray := txt (csL lo hi 128)
theorem csT_size (lo hi : Int) : (csT lo hi).size ≤ 128 := by unfold csT; rw [txt_size]; exact csL_len lo hi 128

set_option maxHeartbeats 400000 in
theorem specQuoteText_any (s : ByteArray) (w : World) (hs : s.size ≤ 300000000) :
    Calls Tryd.prog 11 #[.string s] w fun e w' => e = .returned (.string (qt 34 s)) ∧ Bel w w' := by
  go_enter Tryd.func11, Tryd.ntmps11
  go_wp2_with (fail)
  refine (l4Quote_any s 34 _ (by omega) hs).mono ?_
  rintro e w1 ⟨rfl, hb1⟩
  go_wp2_with (fail)
  all_goals
    go_returns
    exact ⟨rfl, bl⟩
set_option maxHeartbeats 400000 in
theorem implQuoteText_any (s : ByteArray) (w : World) (hs : s.size ≤ 300000000) :
    Calls Tryd.prog 17 #[.string s] w fun e w' => e = .returned (.string (qt 34 s)) ∧ Bel w w' := by
  go_enter Tryd.func17, Tryd.ntmps17
  go_wp2_with (fail)
  refine (quoteWith_any s 34 _ (by omega) hs).mono ?_
  rintro e w1 ⟨rfl, hb1⟩
  go_wp2_with (fail)
  all_goals
    go_returns
    exact ⟨rfl, bl⟩
end Go.Proofs.YtpcimcamjlbagaaDoor
