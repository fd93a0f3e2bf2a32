/- The walk of FnExactToText. -/
import Derived.Test.YtficlopcolglnaaDoorE10
import Derived.Test.YtficlopcolglnaaDoorE0
namespace Go.Proofs.YtficlopcolglnaaDoor
set_option linter.unusedVariables false
set_option linter.unusedSimpArgs false
set_option maxRecDepth 100000
open Go.RowKit

set_option maxHeartbeats 2000000 in
theorem FnExactToText_walk (v : VVal) (w : World) (hv : v.Ok) (htab : P10 w) :
    Calls Tryd.prog 7 #[v.val] w fun e w' => e = .returned (.bool true) ∧ Bel w w' := by
  have ht := hv.t
  obtain ⟨k, n, i, t, lo, hi⟩ := v
  simp only [VVal.val]
  simp only at ht
  rcases Nat.lt_or_ge 1048576 t.size with hs | hs
  all_goals
    first
      | (have HZ := hide (szV_yes t hs))
      | (have HZ := hide (szV_no t hs))
    go_enter Tryd.func7, Tryd.ntmps7
    go_wp2_with (first
      | ((go_at_call 23; refine (szValue_any ⟨k, n, i, t, lo, hi⟩ _ _ (by omega) (by omega) ht).mono ?_; rintro e w1 ⟨rfl, hb1⟩; have hz1 := hb1.size; (try simp only [World.size_alloc, World.size_setCell, World.size_drew] at hz1); have hk1_0 := hb1.box (w.heap.size) (by first | (simp; done) | (simp; omega) | omega); have hf1_0 := hb1.boxf (w.heap.size) (by first | (simp; done) | (simp; omega) | omega); have hl1_0 : w.heap.size < w1.heap.size := (by omega); have hn1_0 : ¬ w.heap.size = w1.heap.size := (by omega); (try simp only [VVal.val])); simp only [HZ.out])
      | (go_at_call 25; refine (toValue_any ⟨k, n, i, t, lo, hi⟩ _).mono ?_; rintro e w2 ⟨rfl, hb2⟩; have hz2 := hb2.size; (try simp only [World.size_alloc, World.size_setCell, World.size_drew] at hz2); have hk2_0 := hb2.box (w.heap.size) (by first | (simp; done) | (simp; omega) | omega); have hf2_0 := hb2.boxf (w.heap.size) (by first | (simp; done) | (simp; omega) | omega); have hl2_0 : w.heap.size < w2.heap.size := (by omega); have hn2_0 : ¬ w.heap.size = w2.heap.size := (by omega); (try simp only [VVal.val]))
      | (go_at_call 24; refine (specToText_any ⟨k, n, i, t, lo, hi⟩ _ hv).mono ?_; rintro e w3 ⟨rfl, hb3⟩; have hz3 := hb3.size; (try simp only [World.size_alloc, World.size_setCell, World.size_drew] at hz3); have hk3_0 := hb3.box (w.heap.size) (by first | (simp; done) | (simp; omega) | omega); have hf3_0 := hb3.boxf (w.heap.size) (by first | (simp; done) | (simp; omega) | omega); have hl3_0 : w.heap.size < w3.heap.size := (by omega); have hn3_0 : ¬ w.heap.size = w3.heap.size := (by omega); (try simp only [VVal.val]))
      | (go_at_call 26; refine (implToText_any ⟨k, n, i, t, lo, hi⟩ _ hv (htab.on (by repeat' (first | exact Bel.refl _ | with_reducible assumption | refine Bel.trans ?_ (by with_reducible assumption) | refine Bel.alloc ?_ _)))).mono ?_; rintro e w4 ⟨rfl, hb4⟩; have hz4 := hb4.size; (try simp only [World.size_alloc, World.size_setCell, World.size_drew] at hz4); have hk4_0 := hb4.box (w.heap.size) (by first | (simp; done) | (simp; omega) | omega); have hf4_0 := hb4.boxf (w.heap.size) (by first | (simp; done) | (simp; omega) | omega); have hl4_0 : w.heap.size < w4.heap.size := (by omega); have hn4_0 : ¬ w.heap.size = w4.heap.size := (by omega); (try simp only [VVal.val])))
    all_goals
      go_returns
      exact ⟨rfl, (by repeat' (first | exact Bel.refl _ | with_reducible assumption | refine Bel.trans ?_ (by with_reducible assumption) | refine Bel.alloc ?_ _ | refine Bel.drew ?_ | refine Bel.drewN ?_ _ | refine Bel.set ?_ ?_ _ | (simp; done) | (simp; omega)))⟩

end Go.Proofs.YtficlopcolglnaaDoor
