/- The walk of FnExactStringValue. -/
import Derived.Test.YtficlopcolglnaaA4
namespace Go.Proofs.Ytficlopcolglnaa
set_option linter.unusedVariables false
set_option linter.unusedSimpArgs false
set_option maxRecDepth 100000
open Go.RowKit

set_option maxHeartbeats 400000 in
theorem FnExactStringValue_walk (s : ByteArray) (w : World) (hs : s.size ≤ maxLen) :
    Calls Try.prog 7 #[.string s] w fun e w' => e = .returned (.bool true) ∧ Bel w w' := by
  have E := hide (VVal.eqB_self (textV s))
  have hs' := hs
  unfold maxLen at hs
  go_enter Try.func7, Try.ntmps7
  go_wp2_with (first | (go_at_call 28; refine (specStringValue_any _ _ hs').mono ?_; rintro e w1 ⟨rfl, hb1⟩; have hz1 := hb1.size; (try simp only [World.size_alloc, World.size_setCell, World.size_drew] at hz1); (try simp only [VVal.val])) | (go_at_call 29; refine (implStringValue_any _ _ hs').mono ?_; rintro e w2 ⟨rfl, hb2⟩; have hz2 := hb2.size; (try simp only [World.size_alloc, World.size_setCell, World.size_drew] at hz2); have hk2_0 := hb2.box (w1.heap.size) (by first | (simp; done) | (simp; omega) | omega); have hf2_0 := hb2.boxf (w1.heap.size) (by first | (simp; done) | (simp; omega) | omega); have hl2_0 : w1.heap.size < w2.heap.size := (by omega); have hn2_0 : ¬ w1.heap.size = w2.heap.size := (by omega); (try simp only [VVal.val])) | ((go_at_call 27; refine (eqValue_any (textV s) (textV s) _).mono ?_; rintro e w3 ⟨rfl, hb3⟩; have hz3 := hb3.size; (try simp only [World.size_alloc, World.size_setCell, World.size_drew] at hz3); have hk3_0 := hb3.box (w1.heap.size) (by first | (simp; done) | (simp; omega) | omega); have hf3_0 := hb3.boxf (w1.heap.size) (by first | (simp; done) | (simp; omega) | omega); have hl3_0 : w1.heap.size < w3.heap.size := (by omega); have hn3_0 : ¬ w1.heap.size = w3.heap.size := (by omega); have hk3_1 := hb3.box (w2.heap.size) (by first | (simp; done) | (simp; omega) | omega); have hf3_1 := hb3.boxf (w2.heap.size) (by first | (simp; done) | (simp; omega) | omega); have hl3_1 : w2.heap.size < w3.heap.size := (by omega); have hn3_1 : ¬ w2.heap.size = w3.heap.size := (by omega); (try simp only [VVal.val])); simp only [E.out]))
  all_goals
    go_returns
    exact ⟨rfl, (by repeat' (first | exact Bel.refl _ | with_reducible assumption | refine Bel.trans ?_ (by with_reducible assumption) | refine Bel.alloc ?_ _ | refine Bel.drew ?_ | refine Bel.drewN ?_ _ | refine Bel.set ?_ ?_ _ | (simp; done) | (simp; omega)))⟩

end Go.Proofs.Ytficlopcolglnaa
