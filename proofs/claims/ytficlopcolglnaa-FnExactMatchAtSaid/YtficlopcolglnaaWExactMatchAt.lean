/- The walk of FnExactMatchAt. -/
import Derived.Test.YtficlopcolglnaaA1
namespace Go.Proofs.Ytficlopcolglnaa
open Go.RowKit

set_option maxHeartbeats 400000 in
theorem FnExactMatchAt_walk (p s : ByteArray) (n : Int) (w : World) (hp : p.size ≤ maxLen) (hs : s.size ≤ maxLen) (_hn : InI n) :
    Calls Try.prog 3 #[.string p, .string s, .int .i64 n] w fun e w' => e = .returned (.bool true) ∧ Bel w w' := by
  have hs' := hs
  have hp' := hp
  unfold maxLen at hs hp
  go_enter Try.func3, Try.ntmps3
  go_wp2_with (first | (go_at_call 16; refine (specMatchAt_any _ _ _ _ hp' hs').mono ?_; rintro e w' ⟨rfl, rfl⟩) | (go_at_call 17; refine (implMatchAt_any _ _ _ _ hp' hs').mono ?_; rintro e w' ⟨rfl, rfl⟩))
  all_goals
    go_returns
    exact ⟨rfl, Bel.refl _⟩

end Go.Proofs.Ytficlopcolglnaa
