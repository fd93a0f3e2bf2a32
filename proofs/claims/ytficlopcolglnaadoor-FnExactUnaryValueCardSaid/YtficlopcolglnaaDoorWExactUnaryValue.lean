/- The walk of FnExactUnaryValue. -/
import Derived.Test.YtficlopcolglnaaDoorE16
import Derived.Test.YtficlopcolglnaaDoorE0
namespace Go.Proofs.YtficlopcolglnaaDoor
set_option linter.unusedVariables false
set_option linter.unusedSimpArgs false
set_option maxRecDepth 100000
open Go.RowKit

set_option maxHeartbeats 2000000 in
theorem FnExactUnaryValue_walk (op : Int) (v : VVal) (w : World) (ho : InI op) (hv : v.Ok) (htab : P10 w) :
    Calls Tryd.prog 11 #[.int .i64 op, v.val] w fun e w' => e = .returned (.bool true) ∧ Bel w w' := by
  have ht := hv.t
  have HS := hide (fun w => specUnaryValue_any op v w hv)
  have HI := hide (fun w h => implUnaryValue_any op v w hv h)
  generalize unaV op v = U at HS HI
  generalize unaC op v = C at HS HI
  have HE := hide (VVal.eqB_self U)
  obtain ⟨uk, un, ui, ut, ulo, uhi⟩ := U
  obtain ⟨k, n, i, t, lo, hi⟩ := v
  simp only [VVal.val]
  simp only at ht
  rcases Nat.lt_or_ge 1048576 t.size with hs | hs
  all_goals
    first
      | (have HZ := hide (szV_yes t hs))
      | (have HZ := hide (szV_no t hs))
    go_enter Tryd.func11, Tryd.ntmps11
    go_wp2_with (first
      | ((go_at_call 23; refine (szValue_any ⟨k, n, i, t, lo, hi⟩ _ _ (by omega) (by omega) ht).mono ?_; rintro e w1 ⟨rfl, hb1⟩; have hz1 := hb1.size; (try simp only [World.size_alloc, World.size_setCell, World.size_drew] at hz1); have hk1_0 := hb1.box (w.heap.size) (by first | (simp; done) | (simp; omega) | omega); have hf1_0 := hb1.boxf (w.heap.size) (by first | (simp; done) | (simp; omega) | omega); have hl1_0 : w.heap.size < w1.heap.size := (by omega); have hn1_0 : ¬ w.heap.size = w1.heap.size := (by omega); (try simp only [VVal.val])); simp only [HZ.out])
      | (go_at_call 25; refine (toValue_any ⟨k, n, i, t, lo, hi⟩ _).mono ?_; rintro e w2 ⟨rfl, hb2⟩; have hz2 := hb2.size; (try simp only [World.size_alloc, World.size_setCell, World.size_drew] at hz2); have hk2_0 := hb2.box (w.heap.size) (by first | (simp; done) | (simp; omega) | omega); have hf2_0 := hb2.boxf (w.heap.size) (by first | (simp; done) | (simp; omega) | omega); have hl2_0 : w.heap.size < w2.heap.size := (by omega); have hn2_0 : ¬ w.heap.size = w2.heap.size := (by omega); have hk2_1 := hb2.box (w3.heap.size) (by first | (simp; done) | (simp; omega) | omega); have hf2_1 := hb2.boxf (w3.heap.size) (by first | (simp; done) | (simp; omega) | omega); have hl2_1 : w3.heap.size < w2.heap.size := (by omega); have hn2_1 : ¬ w3.heap.size = w2.heap.size := (by omega); (try simp only [VVal.val]))
      | (go_at_call 25; refine (toValue_any ⟨k, n, i, t, lo, hi⟩ _).mono ?_; rintro e w2 ⟨rfl, hb2⟩; have hz2 := hb2.size; (try simp only [World.size_alloc, World.size_setCell, World.size_drew] at hz2); have hk2_0 := hb2.box (w.heap.size) (by first | (simp; done) | (simp; omega) | omega); have hf2_0 := hb2.boxf (w.heap.size) (by first | (simp; done) | (simp; omega) | omega); have hl2_0 : w.heap.size < w2.heap.size := (by omega); have hn2_0 : ¬ w.heap.size = w2.heap.size := (by omega); (try simp only [VVal.val]))
      | (go_at_call 37; refine (HS.out _).mono ?_; rintro e w3 ⟨rfl, hb3⟩; have hz3 := hb3.size; (try simp only [World.size_alloc, World.size_setCell, World.size_drew] at hz3); have hk3_0 := hb3.box (w.heap.size) (by first | (simp; done) | (simp; omega) | omega); have hf3_0 := hb3.boxf (w.heap.size) (by first | (simp; done) | (simp; omega) | omega); have hl3_0 : w.heap.size < w3.heap.size := (by omega); have hn3_0 : ¬ w.heap.size = w3.heap.size := (by omega); (try simp only [VVal.val]))
      | (go_at_call 38; refine (HI.out _ (htab.on (by repeat' (first | exact Bel.refl _ | with_reducible assumption | refine Bel.trans ?_ (by with_reducible assumption) | refine Bel.alloc ?_ _ | refine Bel.drew ?_ | refine Bel.drewN ?_ _ | refine Bel.set ?_ ?_ _ | (simp; done) | (simp; omega) | omega)))).mono ?_; rintro e w4 ⟨rfl, hb4⟩; have hz4 := hb4.size; (try simp only [World.size_alloc, World.size_setCell, World.size_drew] at hz4); have hk4_0 := hb4.box (w.heap.size) (by first | (simp; done) | (simp; omega) | omega); have hf4_0 := hb4.boxf (w.heap.size) (by first | (simp; done) | (simp; omega) | omega); have hl4_0 : w.heap.size < w4.heap.size := (by omega); have hn4_0 : ¬ w.heap.size = w4.heap.size := (by omega); have hk4_1 := hb4.box (w3.heap.size) (by first | (simp; done) | (simp; omega) | omega); have hf4_1 := hb4.boxf (w3.heap.size) (by first | (simp; done) | (simp; omega) | omega); have hl4_1 : w3.heap.size < w4.heap.size := (by omega); have hn4_1 : ¬ w3.heap.size = w4.heap.size := (by omega); (try simp only [VVal.val]))
      | ((go_at_call 39; refine (eqValue_any ⟨uk, un, ui, ut, ulo, uhi⟩ ⟨uk, un, ui, ut, ulo, uhi⟩ _).mono ?_; rintro e w5 ⟨rfl, hb5⟩; have hz5 := hb5.size; (try simp only [World.size_alloc, World.size_setCell, World.size_drew] at hz5); have hk5_0 := hb5.box (w.heap.size) (by first | (simp; done) | (simp; omega) | omega); have hf5_0 := hb5.boxf (w.heap.size) (by first | (simp; done) | (simp; omega) | omega); have hl5_0 : w.heap.size < w5.heap.size := (by omega); have hn5_0 : ¬ w.heap.size = w5.heap.size := (by omega); have hk5_1 := hb5.box (w3.heap.size) (by first | (simp; done) | (simp; omega) | omega); have hf5_1 := hb5.boxf (w3.heap.size) (by first | (simp; done) | (simp; omega) | omega); have hl5_1 : w3.heap.size < w5.heap.size := (by omega); have hn5_1 : ¬ w3.heap.size = w5.heap.size := (by omega); have hk5_2 := hb5.box (w4.heap.size) (by first | (simp; done) | (simp; omega) | omega); have hf5_2 := hb5.boxf (w4.heap.size) (by first | (simp; done) | (simp; omega) | omega); have hl5_2 : w4.heap.size < w5.heap.size := (by omega); have hn5_2 : ¬ w4.heap.size = w5.heap.size := (by omega); (try simp only [VVal.val])); simp only [HE.out]))
    all_goals
      go_returns
      exact ⟨rfl, (by repeat' (first | exact Bel.refl _ | with_reducible assumption | refine Bel.trans ?_ (by with_reducible assumption) | refine Bel.alloc ?_ _ | refine Bel.drew ?_ | refine Bel.drewN ?_ _ | refine Bel.set ?_ ?_ _ | (simp; done) | (simp; omega)))⟩

end Go.Proofs.YtficlopcolglnaaDoor
