/- Union, difference, intersection of sets, both sides. -/
import Derived.Test.YtmikipcfepgogaaQ
namespace Go.Proofs.Ytmikipcfepgogaa
set_option linter.unusedVariables false
set_option linter.unusedSimpArgs false
set_option maxRecDepth 100000
open Go.RowKit

set_option maxHeartbeats 400000 in
theorem specUnionCsets_any (a0 a1 b0 b1 : Int) (w : World) :
    Calls Try.prog 99 #[.agg #[.int .i64 a0, .int .i64 a1], .agg #[.int .i64 b0, .int .i64 b1]] w fun e w' => e = .returned (.agg #[.int .i64 (bits .or .i64 a0 b0), .int .i64 (bits .or .i64 a1 b1)]) ∧ Bel w w' := by
  go_enter Try.func99, Try.ntmps99
  go_wp2
  go_returns
  exact ⟨rfl, (by repeat' (first | with_reducible exact Bel.refl _ | with_reducible assumption | with_reducible refine Bel.set ?_ ?_ _ | with_reducible refine Bel.alloc ?_ _ | with_reducible refine Bel.drew ?_ | with_reducible refine Bel.drewN ?_ _ | with_reducible refine Bel.trans ?_ (by with_reducible assumption) | (simp; done) | (simp; omega) | refine Bel.alloc ?_ _ | refine Bel.drew ?_ | refine Bel.drewN ?_ _ | refine Bel.set ?_ ?_ _))⟩
set_option maxHeartbeats 400000 in
theorem specSubtractCsets_any (a0 a1 b0 b1 : Int) (w : World) :
    Calls Try.prog 117 #[.agg #[.int .i64 a0, .int .i64 a1], .agg #[.int .i64 b0, .int .i64 b1]] w fun e w' => e = .returned (.agg #[.int .i64 (bits .andNot .i64 a0 b0), .int .i64 (bits .andNot .i64 a1 b1)]) ∧ Bel w w' := by
  go_enter Try.func117, Try.ntmps117
  go_wp2
  go_returns
  exact ⟨rfl, (by repeat' (first | with_reducible exact Bel.refl _ | with_reducible assumption | with_reducible refine Bel.set ?_ ?_ _ | with_reducible refine Bel.alloc ?_ _ | with_reducible refine Bel.drew ?_ | with_reducible refine Bel.drewN ?_ _ | with_reducible refine Bel.trans ?_ (by with_reducible assumption) | (simp; done) | (simp; omega) | refine Bel.alloc ?_ _ | refine Bel.drew ?_ | refine Bel.drewN ?_ _ | refine Bel.set ?_ ?_ _))⟩
set_option maxHeartbeats 400000 in
theorem implUnionCsets_any (a0 a1 b0 b1 : Int) (w : World) :
    Calls Try.prog 101 #[.agg #[.int .i64 a0, .int .i64 a1], .agg #[.int .i64 b0, .int .i64 b1]] w fun e w' => e = .returned (.agg #[.int .i64 (bits .or .i64 a0 b0), .int .i64 (bits .or .i64 a1 b1)]) ∧ Bel w w' := by
  go_enter Try.func101, Try.ntmps101
  go_wp2
  go_returns
  exact ⟨rfl, (by repeat' (first | with_reducible exact Bel.refl _ | with_reducible assumption | with_reducible refine Bel.set ?_ ?_ _ | with_reducible refine Bel.alloc ?_ _ | with_reducible refine Bel.drew ?_ | with_reducible refine Bel.drewN ?_ _ | with_reducible refine Bel.trans ?_ (by with_reducible assumption) | (simp; done) | (simp; omega) | refine Bel.alloc ?_ _ | refine Bel.drew ?_ | refine Bel.drewN ?_ _ | refine Bel.set ?_ ?_ _))⟩
def cmpl (x : Int) : Int := bits .xor .i64 (-1) x
set_option maxHeartbeats 400000 in
theorem specCompl_any (lo hi : Int) (w : World) :
    Calls Try.prog 114 #[.agg #[.int .i64 lo, .int .i64 hi]] w fun e w' => e = .returned (.agg #[.int .i64 (cmpl lo), .int .i64 (cmpl hi)]) ∧ Bel w w' := by
  go_enter Try.func114, Try.ntmps114
  go_wp2
  go_returns
  exact ⟨rfl, (by repeat' (first | with_reducible exact Bel.refl _ | with_reducible assumption | with_reducible refine Bel.set ?_ ?_ _ | with_reducible refine Bel.alloc ?_ _ | with_reducible refine Bel.drew ?_ | with_reducible refine Bel.drewN ?_ _ | with_reducible refine Bel.trans ?_ (by with_reducible assumption) | (simp; done) | (simp; omega) | refine Bel.alloc ?_ _ | refine Bel.drew ?_ | refine Bel.drewN ?_ _ | refine Bel.set ?_ ?_ _))⟩
theorem gen_world1 {P : Program} {c : Code} {Q : Exit → Act → World → Prop} {a : Act} {W : World} (h : ∀ w2, Bel W w2 → Code.wp P c Q a w2) : Code.wp P c Q a W := h W (Bel.refl W)
end Go.Proofs.Ytmikipcfepgogaa
