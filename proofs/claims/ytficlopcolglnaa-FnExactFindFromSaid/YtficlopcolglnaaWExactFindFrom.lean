/- The walk of FnExactFindFrom. -/
import Derived.Test.YtficlopcolglnaaA8
namespace Go.Proofs.Ytficlopcolglnaa
set_option linter.unusedVariables false
set_option linter.unusedSimpArgs false
set_option maxRecDepth 100000
open Go.RowKit

set_option maxHeartbeats 400000 in
theorem FnExactFindFrom_walk (p s : ByteArray) (n : Int) (w : World) (hp : p.size ≤ maxLen) (hs : s.size ≤ maxLen) (_hn : InI n) (hsh : w.ShapedOpen Try.prog) :
    Calls Try.prog 13 #[.string p, .string s, .int .i64 n] w fun e w' => e = .returned (.bool true) ∧ Bel w w' := by
  have hs' := hs
  have hp' := hp
  obtain ⟨mx, hmx⟩ := Try.laysM143.s1_3 w hsh
  have HMX := hide hmx
  clear hmx hsh
  unfold maxLen at hs hp
  go_enter Try.func13, Try.ntmps13
  go_wp2_with (first | (go_at_call 40; refine (specFindFrom_any _ _ _ _ hp' hs').mono ?_; rintro e w' ⟨rfl, rfl⟩) | (go_at_call 41; refine (implFindFrom_any _ _ _ _ hs' mx HMX.out).mono ?_; rintro e w' ⟨rfl, rfl⟩))
  all_goals
    go_returns
    exact ⟨rfl, Bel.refl _⟩

end Go.Proofs.Ytficlopcolglnaa
