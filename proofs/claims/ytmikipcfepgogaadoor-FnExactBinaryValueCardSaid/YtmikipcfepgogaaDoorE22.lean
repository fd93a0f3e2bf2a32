/- Arithmetic of the program: integerResult, power, arithmetic. -/
import Derived.Test.YtmikipcfepgogaaDoorE19
import Derived.Test.YtmikipcfepgogaaDoorE16
namespace Go.Proofs.YtmikipcfepgogaaDoor
set_option linter.unusedVariables false
set_option linter.unusedSimpArgs false
set_option maxRecDepth 100000
open Go.RowKit

theorem gen_world1 {P : Program} {c : Code} {Q : Exit → Act → World → Prop} {a : Act} {W : World} (h : ∀ w2, Bel W w2 → Code.wp P c Q a w2) : Code.wp P c Q a W := h W (Bel.refl W)
/-- Six cells known. -/
def Six (w : World) (b : Nat) (x0 x1 x2 x3 x4 x5 : Value) : Prop := w.cell? ⟨b, 0, none⟩ = some x0 ∧ w.cell? ⟨b, 1, none⟩ = some x1 ∧ w.cell? ⟨b, 2, none⟩ = some x2 ∧ w.cell? ⟨b, 3, none⟩ = some x3 ∧ w.cell? ⟨b, 4, none⟩ = some x4 ∧ w.cell? ⟨b, 5, none⟩ = some x5
theorem Six.new {w w2 : World} {t : TypeId} {x0 x1 x2 x3 x4 x5 : Value} (h : Bel (w.alloc (.cells #[x0, x1, x2, x3, x4, x5] t)) w2) : Six w2 w.heap.size x0 x1 x2 x3 x4 x5 := by
  have hb := h.box w.heap.size (by simp)
  refine ⟨?_, ?_, ?_, ?_, ?_, ?_⟩ <;> (rw [hb]; simp)
def rV (r : Int × Int) : VVal := if r.2 = 0 then VVal.ofInt r.1 else VVal.zero
theorem implIV_yes (n : Int) (w : World) (h : intOk n = true) :
    Calls Tryd.prog 108 #[.int .i64 n] w fun e w' => e = .returned (.tuple #[.agg #[.int .i64 1, .int .i64 n, .int .i64 0, .string ByteArray.empty, .int .i64 0, .int .i64 0], .bool true]) ∧ Bel w w' := by
  have := implIntegerValue_any n w
  rw [show intV n = VVal.ofInt n by simp [intV, h], h] at this
  exact this
theorem implIV_no (n : Int) (w : World) (h : intOk n = false) :
    Calls Tryd.prog 108 #[.int .i64 n] w fun e w' => e = .returned (.tuple #[.agg #[.int .i64 0, .int .i64 0, .int .i64 0, .string ByteArray.empty, .int .i64 0, .int .i64 0], .bool false]) ∧ Bel w w' := by
  have := implIntegerValue_any n w
  rw [show intV n = VVal.zero by simp [intV, h], h] at this
  exact this
set_option maxHeartbeats 1000000 in
theorem implIR_yes (n : Int) (w : World) (h : intOk n = true) :
    Calls Tryd.prog 94 #[.int .i64 n] w fun e w' => e = .returned (.tuple #[.agg #[.int .i64 1, .int .i64 n, .int .i64 0, .string ByteArray.empty, .int .i64 0, .int .i64 0], .int .i64 0]) ∧ Bel w w' := by
  have H := hide h
  clear h
  go_enter Tryd.func94, Tryd.ntmps94
  go_upto_region 4 with (go_at_call 108; refine (implIV_yes n _ H.out).mono ?_; rintro e w1 ⟨rfl, hb1⟩; have Z1 := Z6.on Z6.new hb1)
  refine gen_world1 fun w2 hb2 => ?_
  have q := Six.new hb2
  have Z := Z1.on (Bel.trans (by repeat' (first | with_reducible exact Bel.refl _ | with_reducible assumption | with_reducible refine Bel.set ?_ ?_ _ | with_reducible refine Bel.alloc ?_ _ | with_reducible refine Bel.drew ?_ | with_reducible refine Bel.drewN ?_ _ | with_reducible refine Bel.trans ?_ (by with_reducible assumption) | (simp; done) | (simp; omega) | refine Bel.alloc ?_ _ | refine Bel.drew ?_ | refine Bel.drewN ?_ _ | refine Bel.set ?_ ?_ _)) hb2)
  have b0 : Bel w w2 := Bel.trans (by repeat' (first | with_reducible exact Bel.refl _ | with_reducible assumption | with_reducible refine Bel.set ?_ ?_ _ | with_reducible refine Bel.alloc ?_ _ | with_reducible refine Bel.drew ?_ | with_reducible refine Bel.drewN ?_ _ | with_reducible refine Bel.trans ?_ (by with_reducible assumption) | (simp; done) | (simp; omega) | refine Bel.alloc ?_ _ | refine Bel.drew ?_ | refine Bel.drewN ?_ _ | refine Bel.set ?_ ?_ _)) hb2
  have hz1 := hb1.size
  simp only [World.size_alloc] at hz1
  have Z' := Z
  obtain ⟨c0, c1, c2, c3, c4, c5, f, l⟩ := Z'
  obtain ⟨q0, q1, q2, q3, q4, q5⟩ := q
  clear hb1 hb2 Z1
  go_wp2_with (fail)
  all_goals (refine gen_ret6 Z fun wz d0 d1 d2 d3 d4 d5 hbz => ?_; exact bodyPost_ret (by simp [results, Tryd.results94, d0, d1, d2, d3, d4, d5, go_sem]; try rfl) rfl ⟨rfl, hbz _ (by repeat' (first | with_reducible exact Bel.refl _ | with_reducible assumption | with_reducible refine Bel.set ?_ ?_ _ | with_reducible refine Bel.alloc ?_ _ | with_reducible refine Bel.drew ?_ | with_reducible refine Bel.drewN ?_ _ | with_reducible refine Bel.trans ?_ (by with_reducible assumption) | (simp; done) | (simp; omega) | refine Bel.alloc ?_ _ | refine Bel.drew ?_ | refine Bel.drewN ?_ _ | refine Bel.set ?_ ?_ _)) (by omega)⟩)
set_option maxHeartbeats 1000000 in
theorem implIR_no (n : Int) (w : World) (h : intOk n = false) :
    Calls Tryd.prog 94 #[.int .i64 n] w fun e w' => e = .returned (.tuple #[.agg #[.int .i64 0, .int .i64 0, .int .i64 0, .string ByteArray.empty, .int .i64 0, .int .i64 0], .int .i64 203]) ∧ Bel w w' := by
  have H := hide h
  clear h
  go_enter Tryd.func94, Tryd.ntmps94
  go_upto_region 3 with (go_at_call 108; refine (implIV_no n _ H.out).mono ?_; rintro e w1 ⟨rfl, hb1⟩; have Z1 := Z6.on Z6.new hb1)
  refine gen_world1 fun w2 hb2 => ?_
  have Z := Z1.on (Bel.trans (by repeat' (first | with_reducible exact Bel.refl _ | with_reducible assumption | with_reducible refine Bel.set ?_ ?_ _ | with_reducible refine Bel.alloc ?_ _ | with_reducible refine Bel.drew ?_ | with_reducible refine Bel.drewN ?_ _ | with_reducible refine Bel.trans ?_ (by with_reducible assumption) | (simp; done) | (simp; omega) | refine Bel.alloc ?_ _ | refine Bel.drew ?_ | refine Bel.drewN ?_ _ | refine Bel.set ?_ ?_ _)) hb2)
  have b0 : Bel w w2 := Bel.trans (by repeat' (first | with_reducible exact Bel.refl _ | with_reducible assumption | with_reducible refine Bel.set ?_ ?_ _ | with_reducible refine Bel.alloc ?_ _ | with_reducible refine Bel.drew ?_ | with_reducible refine Bel.drewN ?_ _ | with_reducible refine Bel.trans ?_ (by with_reducible assumption) | (simp; done) | (simp; omega) | refine Bel.alloc ?_ _ | refine Bel.drew ?_ | refine Bel.drewN ?_ _ | refine Bel.set ?_ ?_ _)) hb2
  have Z' := Z
  obtain ⟨c0, c1, c2, c3, c4, c5, f, l⟩ := Z'
  clear hb1 hb2 Z1
  go_wp2_with (fail)
  all_goals (refine gen_ret6 Z fun wz d0 d1 d2 d3 d4 d5 hbz => ?_; exact bodyPost_ret (by simp [results, Tryd.results94, d0, d1, d2, d3, d4, d5, go_sem]; try rfl) rfl ⟨rfl, hbz _ (by repeat' (first | with_reducible exact Bel.refl _ | with_reducible assumption | with_reducible refine Bel.set ?_ ?_ _ | with_reducible refine Bel.alloc ?_ _ | with_reducible refine Bel.drew ?_ | with_reducible refine Bel.drewN ?_ _ | with_reducible refine Bel.trans ?_ (by with_reducible assumption) | (simp; done) | (simp; omega) | refine Bel.alloc ?_ _ | refine Bel.drew ?_ | refine Bel.drewN ?_ _ | refine Bel.set ?_ ?_ _)) (by omega)⟩)
/-- The first cell of a result. -/
def c0 (c : Int) : Int := if c = 0 then 1 else 0
def rCells (r : Int × Int) : Value := .tuple #[.agg #[.int .i64 (c0 r.2), .int .i64 r.1, .int .i64 0, .string ByteArray.empty, .int .i64 0, .int .i64 0], .int .i64 r.2]
theorem implIR_any (n : Int) (w : World) :
    Calls Tryd.prog 94 #[.int .i64 n] w fun e w' => e = .returned (rCells (rng n)) ∧ Bel w w' := by
  cases h : intOk n
  · rw [show rng n = (0, 203) by simp [rng, h]]
    exact implIR_no n w h
  · rw [show rng n = (n, 0) by simp [rng, h]]
    exact implIR_yes n w h

set_option maxHeartbeats 1000000 in
theorem pow_neg0 (b : Int) (h : b < 0) (w : World) :
    Calls Tryd.prog 96 #[.int .i64 0, .int .i64 b] w fun e w' => e = .returned (.tuple #[.agg #[.int .i64 0, .int .i64 0, .int .i64 0, .string ByteArray.empty, .int .i64 0, .int .i64 0], .int .i64 201]) ∧ Bel w w' := by
  go_enter Tryd.func96, Tryd.ntmps96
  go_wp2_with (fail)
  all_goals
    go_returns
    exact ⟨rfl, (by repeat' (first | with_reducible exact Bel.refl _ | with_reducible assumption | with_reducible refine Bel.set ?_ ?_ _ | with_reducible refine Bel.alloc ?_ _ | with_reducible refine Bel.drew ?_ | with_reducible refine Bel.drewN ?_ _ | with_reducible refine Bel.trans ?_ (by with_reducible assumption) | (simp; done) | (simp; omega) | refine Bel.alloc ?_ _ | refine Bel.drew ?_ | refine Bel.drewN ?_ _ | refine Bel.set ?_ ?_ _))⟩

set_option maxHeartbeats 1000000 in
theorem pow_1 (b : Int) (w : World) :
    Calls Tryd.prog 96 #[.int .i64 1, .int .i64 b] w fun e w' => e = .returned (.tuple #[.agg #[.int .i64 1, .int .i64 (1), .int .i64 0, .string ByteArray.empty, .int .i64 0, .int .i64 0], .int .i64 0]) ∧ Bel w w' := by
  go_enter Tryd.func96, Tryd.ntmps96
  go_wp2_with ((go_at_call 94; refine (implIR_yes 1 _ (by decide)).mono ?_; rintro e w1 ⟨rfl, hb1⟩; have hz1 := hb1.size; (try simp only [World.size_alloc, World.size_setCell, World.size_drew] at hz1); (try simp only [VVal.val]); have Z1 := Z6.on Z6.new hb1; (try simp only [World.size_alloc] at Z1); have Y1 := Z1; obtain ⟨cc1_0, cc1_1, cc1_2, cc1_3, cc1_4, cc1_5, cf1, cl1⟩ := Y1))
  all_goals (refine gen_ret6 Z1 fun wz d0 d1 d2 d3 d4 d5 hbz => ?_; exact bodyPost_ret (by simp [results, Tryd.results96, d0, d1, d2, d3, d4, d5, go_sem]; try rfl) rfl ⟨rfl, hbz _ (by repeat' (first | with_reducible exact Bel.refl _ | with_reducible assumption | with_reducible refine Bel.set ?_ ?_ _ | with_reducible refine Bel.alloc ?_ _ | with_reducible refine Bel.drew ?_ | with_reducible refine Bel.drewN ?_ _ | with_reducible refine Bel.trans ?_ (by with_reducible assumption) | (simp; done) | (simp; omega) | refine Bel.alloc ?_ _ | refine Bel.drew ?_ | refine Bel.drewN ?_ _ | refine Bel.set ?_ ?_ _)) (by omega)⟩)

set_option maxHeartbeats 1000000 in
theorem pow_m1_evena (b : Int) (h : b < 0) (h2 : b.tmod 2 = 0) (w : World) :
    Calls Tryd.prog 96 #[.int .i64 (-1), .int .i64 b] w fun e w' => e = .returned (.tuple #[.agg #[.int .i64 1, .int .i64 (1), .int .i64 0, .string ByteArray.empty, .int .i64 0, .int .i64 0], .int .i64 0]) ∧ Bel w w' := by
  have d4 : 0 ≤ b → b % 2 = 0 := fun h => by rw [← Int.tmod_eq_emod_of_nonneg h]; exact h2
  go_enter Tryd.func96, Tryd.ntmps96
  go_wp2_with ((go_at_call 94; refine (implIR_yes 1 _ (by decide)).mono ?_; rintro e w1 ⟨rfl, hb1⟩; have hz1 := hb1.size; (try simp only [World.size_alloc, World.size_setCell, World.size_drew] at hz1); (try simp only [VVal.val]); have Z1 := Z6.on Z6.new hb1; (try simp only [World.size_alloc] at Z1); have Y1 := Z1; obtain ⟨cc1_0, cc1_1, cc1_2, cc1_3, cc1_4, cc1_5, cf1, cl1⟩ := Y1))
  all_goals (refine gen_ret6 Z1 fun wz d0 d1 d2 d3 d4 d5 hbz => ?_; exact bodyPost_ret (by simp [results, Tryd.results96, d0, d1, d2, d3, d4, d5, go_sem]; try rfl) rfl ⟨rfl, hbz _ (by repeat' (first | with_reducible exact Bel.refl _ | with_reducible assumption | with_reducible refine Bel.set ?_ ?_ _ | with_reducible refine Bel.alloc ?_ _ | with_reducible refine Bel.drew ?_ | with_reducible refine Bel.drewN ?_ _ | with_reducible refine Bel.trans ?_ (by with_reducible assumption) | (simp; done) | (simp; omega) | refine Bel.alloc ?_ _ | refine Bel.drew ?_ | refine Bel.drewN ?_ _ | refine Bel.set ?_ ?_ _)) (by omega)⟩)

set_option maxHeartbeats 1000000 in
theorem pow_m1_odda (b : Int) (h : b < 0) (h2 : ¬ b.tmod 2 = 0) (w : World) :
    Calls Tryd.prog 96 #[.int .i64 (-1), .int .i64 b] w fun e w' => e = .returned (.tuple #[.agg #[.int .i64 1, .int .i64 (-1), .int .i64 0, .string ByteArray.empty, .int .i64 0, .int .i64 0], .int .i64 0]) ∧ Bel w w' := by
  have d3 : (b.tmod 2 != 0) = true := by simp [h2]
  have d4 : 0 ≤ b → (b % 2 != 0) = true := fun h => by rw [Int.tmod_eq_emod_of_nonneg h] at h2; simp [h2]
  have d5 : 0 ≤ b → ¬ b % 2 = 0 := fun h => by rw [Int.tmod_eq_emod_of_nonneg h] at h2; exact h2
  go_enter Tryd.func96, Tryd.ntmps96
  go_wp2_with ((go_at_call 94; refine (implIR_yes (-1) _ (by decide)).mono ?_; rintro e w1 ⟨rfl, hb1⟩; have hz1 := hb1.size; (try simp only [World.size_alloc, World.size_setCell, World.size_drew] at hz1); (try simp only [VVal.val]); have Z1 := Z6.on Z6.new hb1; (try simp only [World.size_alloc] at Z1); have Y1 := Z1; obtain ⟨cc1_0, cc1_1, cc1_2, cc1_3, cc1_4, cc1_5, cf1, cl1⟩ := Y1))
  all_goals (refine gen_ret6 Z1 fun wz d0 d1 d2 d3 d4 d5 hbz => ?_; exact bodyPost_ret (by simp [results, Tryd.results96, d0, d1, d2, d3, d4, d5, go_sem]; try rfl) rfl ⟨rfl, hbz _ (by repeat' (first | with_reducible exact Bel.refl _ | with_reducible assumption | with_reducible refine Bel.set ?_ ?_ _ | with_reducible refine Bel.alloc ?_ _ | with_reducible refine Bel.drew ?_ | with_reducible refine Bel.drewN ?_ _ | with_reducible refine Bel.trans ?_ (by with_reducible assumption) | (simp; done) | (simp; omega) | refine Bel.alloc ?_ _ | refine Bel.drew ?_ | refine Bel.drewN ?_ _ | refine Bel.set ?_ ?_ _)) (by omega)⟩)

set_option maxHeartbeats 1000000 in
theorem pow_m1_evenb (b : Int) (h : ¬ b < 0) (h2 : b.tmod 2 = 0) (w : World) :
    Calls Tryd.prog 96 #[.int .i64 (-1), .int .i64 b] w fun e w' => e = .returned (.tuple #[.agg #[.int .i64 1, .int .i64 (1), .int .i64 0, .string ByteArray.empty, .int .i64 0, .int .i64 0], .int .i64 0]) ∧ Bel w w' := by
  have d4 : 0 ≤ b → b % 2 = 0 := fun h => by rw [← Int.tmod_eq_emod_of_nonneg h]; exact h2
  go_enter Tryd.func96, Tryd.ntmps96
  go_wp2_with ((go_at_call 94; refine (implIR_yes 1 _ (by decide)).mono ?_; rintro e w1 ⟨rfl, hb1⟩; have hz1 := hb1.size; (try simp only [World.size_alloc, World.size_setCell, World.size_drew] at hz1); (try simp only [VVal.val]); have Z1 := Z6.on Z6.new hb1; (try simp only [World.size_alloc] at Z1); have Y1 := Z1; obtain ⟨cc1_0, cc1_1, cc1_2, cc1_3, cc1_4, cc1_5, cf1, cl1⟩ := Y1))
  all_goals (refine gen_ret6 Z1 fun wz d0 d1 d2 d3 d4 d5 hbz => ?_; exact bodyPost_ret (by simp [results, Tryd.results96, d0, d1, d2, d3, d4, d5, go_sem]; try rfl) rfl ⟨rfl, hbz _ (by repeat' (first | with_reducible exact Bel.refl _ | with_reducible assumption | with_reducible refine Bel.set ?_ ?_ _ | with_reducible refine Bel.alloc ?_ _ | with_reducible refine Bel.drew ?_ | with_reducible refine Bel.drewN ?_ _ | with_reducible refine Bel.trans ?_ (by with_reducible assumption) | (simp; done) | (simp; omega) | refine Bel.alloc ?_ _ | refine Bel.drew ?_ | refine Bel.drewN ?_ _ | refine Bel.set ?_ ?_ _)) (by omega)⟩)

set_option maxHeartbeats 1000000 in
theorem pow_m1_oddb (b : Int) (h : ¬ b < 0) (h2 : ¬ b.tmod 2 = 0) (w : World) :
    Calls Tryd.prog 96 #[.int .i64 (-1), .int .i64 b] w fun e w' => e = .returned (.tuple #[.agg #[.int .i64 1, .int .i64 (-1), .int .i64 0, .string ByteArray.empty, .int .i64 0, .int .i64 0], .int .i64 0]) ∧ Bel w w' := by
  have d3 : (b.tmod 2 != 0) = true := by simp [h2]
  have d4 : 0 ≤ b → (b % 2 != 0) = true := fun h => by rw [Int.tmod_eq_emod_of_nonneg h] at h2; simp [h2]
  have d5 : 0 ≤ b → ¬ b % 2 = 0 := fun h => by rw [Int.tmod_eq_emod_of_nonneg h] at h2; exact h2
  go_enter Tryd.func96, Tryd.ntmps96
  go_wp2_with ((go_at_call 94; refine (implIR_yes (-1) _ (by decide)).mono ?_; rintro e w1 ⟨rfl, hb1⟩; have hz1 := hb1.size; (try simp only [World.size_alloc, World.size_setCell, World.size_drew] at hz1); (try simp only [VVal.val]); have Z1 := Z6.on Z6.new hb1; (try simp only [World.size_alloc] at Z1); have Y1 := Z1; obtain ⟨cc1_0, cc1_1, cc1_2, cc1_3, cc1_4, cc1_5, cf1, cl1⟩ := Y1))
  all_goals (refine gen_ret6 Z1 fun wz d0 d1 d2 d3 d4 d5 hbz => ?_; exact bodyPost_ret (by simp [results, Tryd.results96, d0, d1, d2, d3, d4, d5, go_sem]; try rfl) rfl ⟨rfl, hbz _ (by repeat' (first | with_reducible exact Bel.refl _ | with_reducible assumption | with_reducible refine Bel.set ?_ ?_ _ | with_reducible refine Bel.alloc ?_ _ | with_reducible refine Bel.drew ?_ | with_reducible refine Bel.drewN ?_ _ | with_reducible refine Bel.trans ?_ (by with_reducible assumption) | (simp; done) | (simp; omega) | refine Bel.alloc ?_ _ | refine Bel.drew ?_ | refine Bel.drewN ?_ _ | refine Bel.set ?_ ?_ _)) (by omega)⟩)

set_option maxHeartbeats 1000000 in
theorem pow_neg (a b : Int) (h : b < 0) (ha1 : ¬ a = 1) (ha2 : ¬ a = -1) (ha0 : ¬ a = 0) (w : World) :
    Calls Tryd.prog 96 #[.int .i64 a, .int .i64 b] w fun e w' => e = .returned (.tuple #[.agg #[.int .i64 1, .int .i64 (0), .int .i64 0, .string ByteArray.empty, .int .i64 0, .int .i64 0], .int .i64 0]) ∧ Bel w w' := by
  have e1 : (a == 1) = false := by simp [ha1]
  have e2 : (a == -1) = false := by simp [ha2]
  have e3 : (a == 0) = false := by simp [ha0]
  go_enter Tryd.func96, Tryd.ntmps96
  go_wp2_with ((go_at_call 94; refine (implIR_yes 0 _ (by decide)).mono ?_; rintro e w1 ⟨rfl, hb1⟩; have hz1 := hb1.size; (try simp only [World.size_alloc, World.size_setCell, World.size_drew] at hz1); (try simp only [VVal.val]); have Z1 := Z6.on Z6.new hb1; (try simp only [World.size_alloc] at Z1); have Y1 := Z1; obtain ⟨cc1_0, cc1_1, cc1_2, cc1_3, cc1_4, cc1_5, cf1, cl1⟩ := Y1))
  all_goals (refine gen_ret6 Z1 fun wz d0 d1 d2 d3 d4 d5 hbz => ?_; exact bodyPost_ret (by simp [results, Tryd.results96, d0, d1, d2, d3, d4, d5, go_sem]; try rfl) rfl ⟨rfl, hbz _ (by repeat' (first | with_reducible exact Bel.refl _ | with_reducible assumption | with_reducible refine Bel.set ?_ ?_ _ | with_reducible refine Bel.alloc ?_ _ | with_reducible refine Bel.drew ?_ | with_reducible refine Bel.drewN ?_ _ | with_reducible refine Bel.trans ?_ (by with_reducible assumption) | (simp; done) | (simp; omega) | refine Bel.alloc ?_ _ | refine Bel.drew ?_ | refine Bel.drewN ?_ _ | refine Bel.set ?_ ?_ _)) (by omega)⟩)

set_option maxHeartbeats 1000000 in
theorem pow_0pos (b : Int) (h : 0 < b) (w : World) :
    Calls Tryd.prog 96 #[.int .i64 0, .int .i64 b] w fun e w' => e = .returned (.tuple #[.agg #[.int .i64 1, .int .i64 (0), .int .i64 0, .string ByteArray.empty, .int .i64 0, .int .i64 0], .int .i64 0]) ∧ Bel w w' := by
  go_enter Tryd.func96, Tryd.ntmps96
  go_wp2_with ((go_at_call 94; refine (implIR_yes 0 _ (by decide)).mono ?_; rintro e w1 ⟨rfl, hb1⟩; have hz1 := hb1.size; (try simp only [World.size_alloc, World.size_setCell, World.size_drew] at hz1); (try simp only [VVal.val]); have Z1 := Z6.on Z6.new hb1; (try simp only [World.size_alloc] at Z1); have Y1 := Z1; obtain ⟨cc1_0, cc1_1, cc1_2, cc1_3, cc1_4, cc1_5, cf1, cl1⟩ := Y1))
  all_goals (refine gen_ret6 Z1 fun wz d0 d1 d2 d3 d4 d5 hbz => ?_; exact bodyPost_ret (by simp [results, Tryd.results96, d0, d1, d2, d3, d4, d5, go_sem]; try rfl) rfl ⟨rfl, hbz _ (by repeat' (first | with_reducible exact Bel.refl _ | with_reducible assumption | with_reducible refine Bel.set ?_ ?_ _ | with_reducible refine Bel.alloc ?_ _ | with_reducible refine Bel.drew ?_ | with_reducible refine Bel.drewN ?_ _ | with_reducible refine Bel.trans ?_ (by with_reducible assumption) | (simp; done) | (simp; omega) | refine Bel.alloc ?_ _ | refine Bel.drew ?_ | refine Bel.drewN ?_ _ | refine Bel.set ?_ ?_ _)) (by omega)⟩)

set_option maxHeartbeats 1000000 in
theorem pow_00  (w : World) :
    Calls Tryd.prog 96 #[.int .i64 0, .int .i64 0] w fun e w' => e = .returned (.tuple #[.agg #[.int .i64 1, .int .i64 (1), .int .i64 0, .string ByteArray.empty, .int .i64 0, .int .i64 0], .int .i64 0]) ∧ Bel w w' := by
  go_enter Tryd.func96, Tryd.ntmps96
  go_wp2_with (fail)
  go_loopw [1, 6] (fun b n wr => b = .int .i64 0 ∧ n = .int .i64 1 ∧ Z6 wr w.heap.size ∧ Bel w wr) (fun _ _ _ => 0)
  case atStart => exact ⟨rfl, rfl, Z6.new, (by repeat' (first | with_reducible exact Bel.refl _ | with_reducible assumption | with_reducible refine Bel.set ?_ ?_ _ | with_reducible refine Bel.alloc ?_ _ | with_reducible refine Bel.drew ?_ | with_reducible refine Bel.drewN ?_ _ | with_reducible refine Bel.trans ?_ (by with_reducible assumption) | (simp; done) | (simp; omega) | refine Bel.alloc ?_ _ | refine Bel.drew ?_ | refine Bel.drewN ?_ _ | refine Bel.set ?_ ?_ _))⟩
  case round =>
    obtain ⟨rfl, rfl, Z0, hbw⟩ := hrel
    have Z' := Z0
    obtain ⟨k0, k1, k2, k3, k4, k5, f, l⟩ := Z'
    go_wp2_with ((go_at_call 94; refine (implIR_yes 1 _ (by decide)).mono ?_; rintro e w1 ⟨rfl, hb1⟩; have hz1 := hb1.size; (try simp only [World.size_alloc, World.size_setCell, World.size_drew] at hz1); (try simp only [VVal.val]); have Z1 : Z6 w1 _ := Z6.on Z0 (by repeat' (first | with_reducible exact Bel.refl _ | with_reducible assumption | with_reducible refine Bel.set ?_ ?_ _ | with_reducible refine Bel.alloc ?_ _ | with_reducible refine Bel.drew ?_ | with_reducible refine Bel.drewN ?_ _ | with_reducible refine Bel.trans ?_ (by with_reducible assumption) | (simp; done) | (simp; omega) | refine Bel.alloc ?_ _ | refine Bel.drew ?_ | refine Bel.drewN ?_ _ | refine Bel.set ?_ ?_ _)); have Y1 := Z1; obtain ⟨cc1_0, cc1_1, cc1_2, cc1_3, cc1_4, cc1_5, cf1, cl1⟩ := Y1))
    all_goals (refine gen_ret6 Z1 fun wz d0 d1 d2 d3 d4 d5 hbz => ?_; exact bodyPost_ret (by simp [results, Tryd.results96, d0, d1, d2, d3, d4, d5, go_sem]; try rfl) rfl ⟨rfl, hbz _ (by repeat' (first | with_reducible exact Bel.refl _ | with_reducible assumption | with_reducible refine Bel.set ?_ ?_ _ | with_reducible refine Bel.alloc ?_ _ | with_reducible refine Bel.drew ?_ | with_reducible refine Bel.drewN ?_ _ | with_reducible refine Bel.trans ?_ (by with_reducible assumption) | (simp; done) | (simp; omega) | refine Bel.alloc ?_ _ | refine Bel.drew ?_ | refine Bel.drewN ?_ _ | refine Bel.set ?_ ?_ _)) (by omega)⟩)

set_option maxHeartbeats 2000000 in
theorem pow_loop (a b : Int) (w : World) (ha : InM a) (hb : InM b) (h : ¬ b < 0) (ha1 : ¬ a = 1) (ha2 : ¬ a = -1) (ha0 : ¬ a = 0) :
    Calls Tryd.prog 96 #[.int .i64 a, .int .i64 b] w fun e w' => e = .returned (rCells (pwF a b.toNat 1)) ∧ Bel w w' := by
  have hb' := hb
  unfold InM at hb'
  have e1 : (a == 1) = false := by simp [ha1]
  have e2 : (a == -1) = false := by simp [ha2]
  have e3 : (a == 0) = false := by simp [ha0]
  clear ha0 ha1 ha2
  unfold rCells
  go_enter Tryd.func96, Tryd.ntmps96
  go_wp2_with (fail)
  go_loopw [1, 6] (fun bv nv wr => ∃ (k : Nat) (n : Int), bv = .int .i64 k ∧ nv = .int .i64 n ∧ (k : Int) ≤ b ∧ InM n ∧ Hid (pwF a k n = pwF a b.toNat 1) ∧ Z6 wr w.heap.size ∧ Bel w wr) (fun bv _ _ => (intOf bv).toNat)
  case atStart => exact ⟨b.toNat, 1, by congr 1; (try omega), rfl, by omega, inM_1, hide rfl, Z6.new, (by repeat' (first | with_reducible exact Bel.refl _ | with_reducible assumption | with_reducible refine Bel.set ?_ ?_ _ | with_reducible refine Bel.alloc ?_ _ | with_reducible refine Bel.drew ?_ | with_reducible refine Bel.drewN ?_ _ | with_reducible refine Bel.trans ?_ (by with_reducible assumption) | (simp; done) | (simp; omega) | refine Bel.alloc ?_ _ | refine Bel.drew ?_ | refine Bel.drewN ?_ _ | refine Bel.set ?_ ?_ _))⟩
  case round =>
    obtain ⟨k, n, rfl, rfl, k1, hn, hp, Z0, hbw⟩ := hrel
    have Z' := Z0
    obtain ⟨k0, k1', k2, k3, k4, k5, f, l⟩ := Z'
    rcases Nat.eq_zero_or_pos k with q | q
    · subst q
      have hG := hide (show pwF a b.toNat 1 = (n, 0) by rw [← hp.out, pwF])
      have hk := hide (show intOk n = true by unfold InM at hn; simp [intOk, hn])
      go_wp2_with ((go_at_call 94; refine (implIR_yes n _ hk.out).mono ?_; rintro e w1 ⟨rfl, hb1⟩; have hz1 := hb1.size; (try simp only [World.size_alloc, World.size_setCell, World.size_drew] at hz1); (try simp only [VVal.val]); have Z1 : Z6 w1 _ := Z6.on Z0 (by repeat' (first | with_reducible exact Bel.refl _ | with_reducible assumption | with_reducible refine Bel.set ?_ ?_ _ | with_reducible refine Bel.alloc ?_ _ | with_reducible refine Bel.drew ?_ | with_reducible refine Bel.drewN ?_ _ | with_reducible refine Bel.trans ?_ (by with_reducible assumption) | (simp; done) | (simp; omega) | refine Bel.alloc ?_ _ | refine Bel.drew ?_ | refine Bel.drewN ?_ _ | refine Bel.set ?_ ?_ _)); have Y1 := Z1; obtain ⟨cc1_0, cc1_1, cc1_2, cc1_3, cc1_4, cc1_5, cf1, cl1⟩ := Y1))
      all_goals (refine gen_ret6 Z1 fun wz d0 d1 d2 d3 d4 d5 hbz => ?_; exact bodyPost_ret (by simp [results, Tryd.results96, d0, d1, d2, d3, d4, d5, go_sem]; try rfl) rfl ⟨(by rw [hG.out]; rfl), hbz _ (by repeat' (first | with_reducible exact Bel.refl _ | with_reducible assumption | with_reducible refine Bel.set ?_ ?_ _ | with_reducible refine Bel.alloc ?_ _ | with_reducible refine Bel.drew ?_ | with_reducible refine Bel.drewN ?_ _ | with_reducible refine Bel.trans ?_ (by with_reducible assumption) | (simp; done) | (simp; omega) | refine Bel.alloc ?_ _ | refine Bel.drew ?_ | refine Bel.drewN ?_ _ | refine Bel.set ?_ ?_ _)) (by omega)⟩)
    · obtain ⟨j, rfl⟩ : ∃ j, k = j + 1 := ⟨k - 1, by omega⟩
      have d1 : decide ((0 : Int) < ((j + 1 : Nat) : Int)) = true := by simp; (try omega)
      have HC := hide (fun w => product_any n a w hn ha)
      cases hm : mulOk n a
      · have hV := hide hm
        have hG := hide (show pwF a b.toNat 1 = (0, 203) by rw [← hp.out, pw_stop hm])
        clear hm
        go_wp2_with ((go_at_call 95; refine (HC.out _).mono ?_; rintro e w1 ⟨rfl, hb1⟩; have hz1 := hb1.size; (try simp only [World.size_alloc, World.size_setCell, World.size_drew] at hz1); (try simp only [VVal.val]); have Z1 : Z6 w1 _ := Z6.on Z0 (by repeat' (first | with_reducible exact Bel.refl _ | with_reducible assumption | with_reducible refine Bel.set ?_ ?_ _ | with_reducible refine Bel.alloc ?_ _ | with_reducible refine Bel.drew ?_ | with_reducible refine Bel.drewN ?_ _ | with_reducible refine Bel.trans ?_ (by with_reducible assumption) | (simp; done) | (simp; omega) | refine Bel.alloc ?_ _ | refine Bel.drew ?_ | refine Bel.drewN ?_ _ | refine Bel.set ?_ ?_ _)); have Y1 := Z1; obtain ⟨cc1_0, cc1_1, cc1_2, cc1_3, cc1_4, cc1_5, cf1, cl1⟩ := Y1); rw [hV.out])
        all_goals (refine gen_ret6 Z1 fun wz d0 d1 d2 d3 d4 d5 hbz => ?_; exact bodyPost_ret (by simp [results, Tryd.results96, d0, d1, d2, d3, d4, d5, go_sem]; try rfl) rfl ⟨(by rw [hG.out]; rfl), hbz _ (by repeat' (first | with_reducible exact Bel.refl _ | with_reducible assumption | with_reducible refine Bel.set ?_ ?_ _ | with_reducible refine Bel.alloc ?_ _ | with_reducible refine Bel.drew ?_ | with_reducible refine Bel.drewN ?_ _ | with_reducible refine Bel.trans ?_ (by with_reducible assumption) | (simp; done) | (simp; omega) | refine Bel.alloc ?_ _ | refine Bel.drew ?_ | refine Bel.drewN ?_ _ | refine Bel.set ?_ ?_ _)) (by omega)⟩)
      · have hV2 := hide (show mulV n a = n * a by simp [mulV, hm])
        have hG := hide (show pwF a j (n * a) = pwF a b.toNat 1 by rw [← hp.out, pw_step hm])
        have hin := mul_in hm
        have hV := hide hm
        clear hm
        go_wp2_with ((go_at_call 95; refine (HC.out _).mono ?_; rintro e w1 ⟨rfl, hb1⟩; have hz1 := hb1.size; (try simp only [World.size_alloc, World.size_setCell, World.size_drew] at hz1); (try simp only [VVal.val]); have Z1 : Z6 w1 _ := Z6.on Z0 (by repeat' (first | with_reducible exact Bel.refl _ | with_reducible assumption | with_reducible refine Bel.set ?_ ?_ _ | with_reducible refine Bel.alloc ?_ _ | with_reducible refine Bel.drew ?_ | with_reducible refine Bel.drewN ?_ _ | with_reducible refine Bel.trans ?_ (by with_reducible assumption) | (simp; done) | (simp; omega) | refine Bel.alloc ?_ _ | refine Bel.drew ?_ | refine Bel.drewN ?_ _ | refine Bel.set ?_ ?_ _)); have Y1 := Z1; obtain ⟨cc1_0, cc1_1, cc1_2, cc1_3, cc1_4, cc1_5, cf1, cl1⟩ := Y1); rw [hV.out, hV2.out])
        exact ⟨⟨j, n * a, by congr 1; (try omega), rfl, by omega, hin, hG, Z1, (by repeat' (first | with_reducible exact Bel.refl _ | with_reducible assumption | with_reducible refine Bel.set ?_ ?_ _ | with_reducible refine Bel.alloc ?_ _ | with_reducible refine Bel.drew ?_ | with_reducible refine Bel.drewN ?_ _ | with_reducible refine Bel.trans ?_ (by with_reducible assumption) | (simp; done) | (simp; omega) | refine Bel.alloc ?_ _ | refine Bel.drew ?_ | refine Bel.drewN ?_ _ | refine Bel.set ?_ ?_ _))⟩, by simp only [intOf]; omega⟩

theorem implPower_any (a b : Int) (w : World) (ha : InM a) (hb : InM b) :
    Calls Tryd.prog 96 #[.int .i64 a, .int .i64 b] w fun e w' => e = .returned (rCells (powR a b)) ∧ Bel w w' := by
  by_cases c1 : a = 1
  · subst c1
    rw [show powR 1 b = (1, 0) by simp [powR]]
    exact pow_1 b w
  by_cases c2 : a = -1
  · subst c2
    by_cases d2 : b.tmod 2 = 0
    · rw [show powR (-1) b = (1, 0) by simp [powR, d2]]
      by_cases h : b < 0
      · exact pow_m1_evena b h d2 w
      · exact pow_m1_evenb b h d2 w
    · rw [show powR (-1) b = (-1, 0) by simp [powR, d2]]
      by_cases h : b < 0
      · exact pow_m1_odda b h d2 w
      · exact pow_m1_oddb b h d2 w
  by_cases c0 : a = 0
  · subst c0
    by_cases d1 : b < 0
    · rw [show powR 0 b = (0, 201) by simp [powR, d1]]
      exact pow_neg0 b d1 w
    · by_cases d2 : 0 < b
      · rw [show powR 0 b = (0, 0) by simp [powR, d1, d2]]
        exact pow_0pos b d2 w
      · obtain rfl : b = 0 := by omega
        rw [show powR 0 0 = (1, 0) by simp [powR, pwF]]
        exact pow_00 w
  by_cases d1 : b < 0
  · rw [show powR a b = (0, 0) by simp [powR, c0, c1, c2, d1]]
    exact pow_neg a b d1 c1 c2 c0 w
  · rw [show powR a b = pwF a b.toNat 1 by simp [powR, c0, c1, c2, d1]]
    exact pow_loop a b w ha hb d1 c1 c2 c0

set_option maxHeartbeats 1000000 in
theorem ar_20 (a b : Int) (ha : InM a) (hb : InM b) (w : World) :
    Calls Tryd.prog 65 #[.int .i64 20, .int .i64 a, .int .i64 b] w fun e w' => e = .returned (rCells (rng (a + b))) ∧ Bel w w' := by
  unfold rCells
  unfold InM at ha hb
  have HI := fun w => implIR_any (a + b) w
  unfold rCells at HI
  replace HI := hide HI
  go_enter Tryd.func65, Tryd.ntmps65
  go_wp2_with ((go_at_call 94; refine (HI.out _).mono ?_; rintro e w1 ⟨rfl, hb1⟩; have hz1 := hb1.size; (try simp only [World.size_alloc, World.size_setCell, World.size_drew] at hz1); (try simp only [VVal.val]); have Z1 := Z6.on Z6.new hb1; (try simp only [World.size_alloc] at Z1); have Y1 := Z1; obtain ⟨cc1_0, cc1_1, cc1_2, cc1_3, cc1_4, cc1_5, cf1, cl1⟩ := Y1))
  all_goals (refine gen_ret6 Z1 fun wz d0 d1 d2 d3 d4 d5 hbz => ?_; exact bodyPost_ret (by simp [results, Tryd.results65, d0, d1, d2, d3, d4, d5, go_sem]; try rfl) rfl ⟨rfl, hbz _ (by repeat' (first | with_reducible exact Bel.refl _ | with_reducible assumption | with_reducible refine Bel.set ?_ ?_ _ | with_reducible refine Bel.alloc ?_ _ | with_reducible refine Bel.drew ?_ | with_reducible refine Bel.drewN ?_ _ | with_reducible refine Bel.trans ?_ (by with_reducible assumption) | (simp; done) | (simp; omega) | refine Bel.alloc ?_ _ | refine Bel.drew ?_ | refine Bel.drewN ?_ _ | refine Bel.set ?_ ?_ _)) (by omega)⟩)

set_option maxHeartbeats 1000000 in
theorem ar_21 (a b : Int) (ha : InM a) (hb : InM b) (w : World) :
    Calls Tryd.prog 65 #[.int .i64 21, .int .i64 a, .int .i64 b] w fun e w' => e = .returned (rCells (rng (a - b))) ∧ Bel w w' := by
  unfold rCells
  unfold InM at ha hb
  have HI := fun w => implIR_any (a - b) w
  unfold rCells at HI
  replace HI := hide HI
  go_enter Tryd.func65, Tryd.ntmps65
  go_wp2_with ((go_at_call 94; refine (HI.out _).mono ?_; rintro e w1 ⟨rfl, hb1⟩; have hz1 := hb1.size; (try simp only [World.size_alloc, World.size_setCell, World.size_drew] at hz1); (try simp only [VVal.val]); have Z1 := Z6.on Z6.new hb1; (try simp only [World.size_alloc] at Z1); have Y1 := Z1; obtain ⟨cc1_0, cc1_1, cc1_2, cc1_3, cc1_4, cc1_5, cf1, cl1⟩ := Y1))
  all_goals (refine gen_ret6 Z1 fun wz d0 d1 d2 d3 d4 d5 hbz => ?_; exact bodyPost_ret (by simp [results, Tryd.results65, d0, d1, d2, d3, d4, d5, go_sem]; try rfl) rfl ⟨rfl, hbz _ (by repeat' (first | with_reducible exact Bel.refl _ | with_reducible assumption | with_reducible refine Bel.set ?_ ?_ _ | with_reducible refine Bel.alloc ?_ _ | with_reducible refine Bel.drew ?_ | with_reducible refine Bel.drewN ?_ _ | with_reducible refine Bel.trans ?_ (by with_reducible assumption) | (simp; done) | (simp; omega) | refine Bel.alloc ?_ _ | refine Bel.drew ?_ | refine Bel.drewN ?_ _ | refine Bel.set ?_ ?_ _)) (by omega)⟩)

set_option maxHeartbeats 1000000 in
theorem ar_22n (a b : Int) (ha : InM a) (hb : InM b) (hm : mulOk a b = false) (w : World) :
    Calls Tryd.prog 65 #[.int .i64 22, .int .i64 a, .int .i64 b] w fun e w' => e = .returned (.tuple #[.agg #[.int .i64 0, .int .i64 0, .int .i64 0, .string ByteArray.empty, .int .i64 0, .int .i64 0], .int .i64 203]) ∧ Bel w w' := by
  have HC := hide (fun w => product_any a b w ha hb)
  have hV := hide hm
  clear hm
  go_enter Tryd.func65, Tryd.ntmps65
  go_wp2_with ((go_at_call 95; refine (HC.out _).mono ?_; rintro e w1 ⟨rfl, hb1⟩; have hz1 := hb1.size; (try simp only [World.size_alloc, World.size_setCell, World.size_drew] at hz1); (try simp only [VVal.val]); have Z1 := Z6.on Z6.new hb1; (try simp only [World.size_alloc] at Z1); have Y1 := Z1; obtain ⟨cc1_0, cc1_1, cc1_2, cc1_3, cc1_4, cc1_5, cf1, cl1⟩ := Y1); rw [hV.out])
  all_goals (refine gen_ret6 Z1 fun wz d0 d1 d2 d3 d4 d5 hbz => ?_; exact bodyPost_ret (by simp [results, Tryd.results65, d0, d1, d2, d3, d4, d5, go_sem]; try rfl) rfl ⟨rfl, hbz _ (by repeat' (first | with_reducible exact Bel.refl _ | with_reducible assumption | with_reducible refine Bel.set ?_ ?_ _ | with_reducible refine Bel.alloc ?_ _ | with_reducible refine Bel.drew ?_ | with_reducible refine Bel.drewN ?_ _ | with_reducible refine Bel.trans ?_ (by with_reducible assumption) | (simp; done) | (simp; omega) | refine Bel.alloc ?_ _ | refine Bel.drew ?_ | refine Bel.drewN ?_ _ | refine Bel.set ?_ ?_ _)) (by omega)⟩)
set_option maxHeartbeats 1000000 in
theorem ar_22y (a b : Int) (ha : InM a) (hb : InM b) (hm : mulOk a b = true) (w : World) :
    Calls Tryd.prog 65 #[.int .i64 22, .int .i64 a, .int .i64 b] w fun e w' => e = .returned (.tuple #[.agg #[.int .i64 1, .int .i64 (a * b), .int .i64 0, .string ByteArray.empty, .int .i64 0, .int .i64 0], .int .i64 0]) ∧ Bel w w' := by
  have HC := hide (fun w => product_any a b w ha hb)
  have hV := hide hm
  have hV2 := hide (show mulV a b = a * b by simp [mulV, hm])
  have hin := mul_in hm
  have hk := hide (show intOk (a * b) = true by unfold InM at hin; simp [intOk, hin])
  clear hm hin
  go_enter Tryd.func65, Tryd.ntmps65
  go_wp2_with (first
  | ((go_at_call 95; refine (HC.out _).mono ?_; rintro e w1 ⟨rfl, hb1⟩; have hz1 := hb1.size; (try simp only [World.size_alloc, World.size_setCell, World.size_drew] at hz1); (try simp only [VVal.val]); have Z1 := Z6.on Z6.new hb1; (try simp only [World.size_alloc] at Z1); have Y1 := Z1; obtain ⟨cc1_0, cc1_1, cc1_2, cc1_3, cc1_4, cc1_5, cf1, cl1⟩ := Y1); rw [hV.out, hV2.out])
  | (go_at_call 94; refine (implIR_yes (a * b) _ hk.out).mono ?_; rintro e w2 ⟨rfl, hb2⟩; have hz2 := hb2.size; (try simp only [World.size_alloc, World.size_setCell, World.size_drew] at hz2); (try simp only [VVal.val]); have Z2 : Z6 w2 _ := Z6.on Z1 (by repeat' (first | with_reducible exact Bel.refl _ | with_reducible assumption | with_reducible refine Bel.set ?_ ?_ _ | with_reducible refine Bel.alloc ?_ _ | with_reducible refine Bel.drew ?_ | with_reducible refine Bel.drewN ?_ _ | with_reducible refine Bel.trans ?_ (by with_reducible assumption) | (simp; done) | (simp; omega) | refine Bel.alloc ?_ _ | refine Bel.drew ?_ | refine Bel.drewN ?_ _ | refine Bel.set ?_ ?_ _)); have Y2 := Z2; obtain ⟨cc2_0, cc2_1, cc2_2, cc2_3, cc2_4, cc2_5, cf2, cl2⟩ := Y2))
  all_goals (refine gen_ret6 Z2 fun wz d0 d1 d2 d3 d4 d5 hbz => ?_; exact bodyPost_ret (by simp [results, Tryd.results65, d0, d1, d2, d3, d4, d5, go_sem]; try rfl) rfl ⟨rfl, hbz _ (by repeat' (first | with_reducible exact Bel.refl _ | with_reducible assumption | with_reducible refine Bel.set ?_ ?_ _ | with_reducible refine Bel.alloc ?_ _ | with_reducible refine Bel.drew ?_ | with_reducible refine Bel.drewN ?_ _ | with_reducible refine Bel.trans ?_ (by with_reducible assumption) | (simp; done) | (simp; omega) | refine Bel.alloc ?_ _ | refine Bel.drew ?_ | refine Bel.drewN ?_ _ | refine Bel.set ?_ ?_ _)) (by omega)⟩)
set_option maxHeartbeats 1000000 in
theorem ar_0 (op a : Int) (ho : op = 23 ∨ op = 24) (w : World) :
    Calls Tryd.prog 65 #[.int .i64 op, .int .i64 a, .int .i64 0] w fun e w' => e = .returned (.tuple #[.agg #[.int .i64 0, .int .i64 0, .int .i64 0, .string ByteArray.empty, .int .i64 0, .int .i64 0], .int .i64 201]) ∧ Bel w w' := by
  rcases ho with rfl | rfl
  all_goals
    go_enter Tryd.func65, Tryd.ntmps65
    go_wp2_with (fail)
    all_goals
      go_returns
      exact ⟨rfl, (by repeat' (first | with_reducible exact Bel.refl _ | with_reducible assumption | with_reducible refine Bel.set ?_ ?_ _ | with_reducible refine Bel.alloc ?_ _ | with_reducible refine Bel.drew ?_ | with_reducible refine Bel.drewN ?_ _ | with_reducible refine Bel.trans ?_ (by with_reducible assumption) | (simp; done) | (simp; omega) | refine Bel.alloc ?_ _ | refine Bel.drew ?_ | refine Bel.drewN ?_ _ | refine Bel.set ?_ ?_ _))⟩

set_option maxHeartbeats 1000000 in
theorem ar_23 (a b : Int) (ha : InM a) (hb : InM b) (h0 : ¬ b = 0) (w : World) :
    Calls Tryd.prog 65 #[.int .i64 23, .int .i64 a, .int .i64 b] w fun e w' => e = .returned (rCells (rng (a.tdiv b))) ∧ Bel w w' := by
  unfold rCells
  have e0 : (b == 0) = false := by simp [h0]
  have hW := in_wrap (tdiv_in ha h0)
  unfold InM at ha hb
  have HI := fun w => implIR_any (a.tdiv b) w
  unfold rCells at HI
  replace HI := hide HI
  go_enter Tryd.func65, Tryd.ntmps65
  go_wp2_with ((go_at_call 94; refine (HI.out _).mono ?_; rintro e w1 ⟨rfl, hb1⟩; have hz1 := hb1.size; (try simp only [World.size_alloc, World.size_setCell, World.size_drew] at hz1); (try simp only [VVal.val]); have Z1 := Z6.on Z6.new hb1; (try simp only [World.size_alloc] at Z1); have Y1 := Z1; obtain ⟨cc1_0, cc1_1, cc1_2, cc1_3, cc1_4, cc1_5, cf1, cl1⟩ := Y1))
  all_goals (refine gen_ret6 Z1 fun wz d0 d1 d2 d3 d4 d5 hbz => ?_; exact bodyPost_ret (by simp [results, Tryd.results65, d0, d1, d2, d3, d4, d5, go_sem]; try rfl) rfl ⟨rfl, hbz _ (by repeat' (first | with_reducible exact Bel.refl _ | with_reducible assumption | with_reducible refine Bel.set ?_ ?_ _ | with_reducible refine Bel.alloc ?_ _ | with_reducible refine Bel.drew ?_ | with_reducible refine Bel.drewN ?_ _ | with_reducible refine Bel.trans ?_ (by with_reducible assumption) | (simp; done) | (simp; omega) | refine Bel.alloc ?_ _ | refine Bel.drew ?_ | refine Bel.drewN ?_ _ | refine Bel.set ?_ ?_ _)) (by omega)⟩)

set_option maxHeartbeats 1000000 in
theorem ar_24 (a b : Int) (ha : InM a) (hb : InM b) (h0 : ¬ b = 0) (w : World) :
    Calls Tryd.prog 65 #[.int .i64 24, .int .i64 a, .int .i64 b] w fun e w' => e = .returned (rCells (rng (a.tmod b))) ∧ Bel w w' := by
  unfold rCells
  have e0 : (b == 0) = false := by simp [h0]
  have hW := in_wrap (tmod_in (b := b) ha)
  unfold InM at ha hb
  have HI := fun w => implIR_any (a.tmod b) w
  unfold rCells at HI
  replace HI := hide HI
  go_enter Tryd.func65, Tryd.ntmps65
  go_wp2_with ((go_at_call 94; refine (HI.out _).mono ?_; rintro e w1 ⟨rfl, hb1⟩; have hz1 := hb1.size; (try simp only [World.size_alloc, World.size_setCell, World.size_drew] at hz1); (try simp only [VVal.val]); have Z1 := Z6.on Z6.new hb1; (try simp only [World.size_alloc] at Z1); have Y1 := Z1; obtain ⟨cc1_0, cc1_1, cc1_2, cc1_3, cc1_4, cc1_5, cf1, cl1⟩ := Y1))
  all_goals (refine gen_ret6 Z1 fun wz d0 d1 d2 d3 d4 d5 hbz => ?_; exact bodyPost_ret (by simp [results, Tryd.results65, d0, d1, d2, d3, d4, d5, go_sem]; try rfl) rfl ⟨rfl, hbz _ (by repeat' (first | with_reducible exact Bel.refl _ | with_reducible assumption | with_reducible refine Bel.set ?_ ?_ _ | with_reducible refine Bel.alloc ?_ _ | with_reducible refine Bel.drew ?_ | with_reducible refine Bel.drewN ?_ _ | with_reducible refine Bel.trans ?_ (by with_reducible assumption) | (simp; done) | (simp; omega) | refine Bel.alloc ?_ _ | refine Bel.drew ?_ | refine Bel.drewN ?_ _ | refine Bel.set ?_ ?_ _)) (by omega)⟩)

set_option maxHeartbeats 1000000 in
theorem ar_25 (a b : Int) (ha : InM a) (hb : InM b) (w : World) :
    Calls Tryd.prog 65 #[.int .i64 25, .int .i64 a, .int .i64 b] w fun e w' => e = .returned (rCells (powR a b)) ∧ Bel w w' := by
  have HI := fun w => implPower_any a b w ha hb
  unfold rCells at HI ⊢
  replace HI := hide HI
  go_enter Tryd.func65, Tryd.ntmps65
  go_upto_region 13 with (go_at_call 96; refine (HI.out _).mono ?_; rintro e w1 ⟨rfl, hb1⟩; have Z1 := Z6.on Z6.new hb1)
  refine gen_world1 fun w2 hb2 => ?_
  have q := Six.new hb2
  have Z := Z1.on (Bel.trans (by repeat' (first | with_reducible exact Bel.refl _ | with_reducible assumption | with_reducible refine Bel.set ?_ ?_ _ | with_reducible refine Bel.alloc ?_ _ | with_reducible refine Bel.drew ?_ | with_reducible refine Bel.drewN ?_ _ | with_reducible refine Bel.trans ?_ (by with_reducible assumption) | (simp; done) | (simp; omega) | refine Bel.alloc ?_ _ | refine Bel.drew ?_ | refine Bel.drewN ?_ _ | refine Bel.set ?_ ?_ _)) hb2)
  have b0 : Bel w w2 := Bel.trans (by repeat' (first | with_reducible exact Bel.refl _ | with_reducible assumption | with_reducible refine Bel.set ?_ ?_ _ | with_reducible refine Bel.alloc ?_ _ | with_reducible refine Bel.drew ?_ | with_reducible refine Bel.drewN ?_ _ | with_reducible refine Bel.trans ?_ (by with_reducible assumption) | (simp; done) | (simp; omega) | refine Bel.alloc ?_ _ | refine Bel.drew ?_ | refine Bel.drewN ?_ _ | refine Bel.set ?_ ?_ _)) hb2
  have hz1 := hb1.size
  simp only [World.size_alloc] at hz1
  have Z' := Z
  obtain ⟨k0, k1, k2, k3, k4, k5, f, l⟩ := Z'
  obtain ⟨q0, q1, q2, q3, q4, q5⟩ := q
  clear hb1 hb2 Z1
  go_wp2_with (fail)
  all_goals (refine gen_ret6 Z fun wz d0 d1 d2 d3 d4 d5 hbz => ?_; exact bodyPost_ret (by simp [results, Tryd.results65, d0, d1, d2, d3, d4, d5, go_sem]; try rfl) rfl ⟨rfl, hbz _ (by repeat' (first | with_reducible exact Bel.refl _ | with_reducible assumption | with_reducible refine Bel.set ?_ ?_ _ | with_reducible refine Bel.alloc ?_ _ | with_reducible refine Bel.drew ?_ | with_reducible refine Bel.drewN ?_ _ | with_reducible refine Bel.trans ?_ (by with_reducible assumption) | (simp; done) | (simp; omega) | refine Bel.alloc ?_ _ | refine Bel.drew ?_ | refine Bel.drewN ?_ _ | refine Bel.set ?_ ?_ _)) (by omega)⟩)
theorem rng_of {n : Int} (h : InM n) : rng n = (n, 0) := rng_yes h.1 h.2
theorem ar_cases {op : Int} (h1 : 20 ≤ op) (h2 : op ≤ 25) : op = 20 ∨ op = 21 ∨ op = 22 ∨ op = 23 ∨ op = 24 ∨ op = 25 := by omega
theorem implAr_any (op a b : Int) (w : World) (ha : InM a) (hb : InM b) (h1 : 20 ≤ op) (h2 : op ≤ 25) :
    Calls Tryd.prog 65 #[.int .i64 op, .int .i64 a, .int .i64 b] w fun e w' => e = .returned (rCells (arR op a b)) ∧ Bel w w' := by
  rcases ar_cases h1 h2 with rfl | rfl | rfl | rfl | rfl | rfl
  · exact ar_20 a b ha hb w
  · exact ar_21 a b ha hb w
  · cases hm : mulOk a b
    · rw [show arR 22 a b = (0, 203) by simp [arR, hm]]
      exact ar_22n a b ha hb hm w
    · rw [show arR 22 a b = (a * b, 0) by simp [arR, hm]]
      exact ar_22y a b ha hb hm w
  · by_cases h0 : b = 0
    · subst h0
      exact ar_0 23 a (by decide) w
    · rw [show arR 23 a b = rng (a.tdiv b) by simp [arR, h0]]
      exact ar_23 a b ha hb h0 w
  · by_cases h0 : b = 0
    · subst h0
      exact ar_0 24 a (by decide) w
    · rw [show arR 24 a b = rng (a.tmod b) by simp [arR, h0]]
      exact ar_24 a b ha hb h0 w
  · rw [show arR 25 a b = powR a b by simp [arR]]
    exact ar_25 a b ha hb w
/-- What l15Compute of the reference says, whatever the operator. -/
theorem specCompute_any (op a b : Int) (w : World) (ha : InM a) (hb : InM b) (h1 : 20 ≤ op) (h2 : op ≤ 25) :
    Calls Tryd.prog 87 #[.int .i64 op, .int .i64 a, .int .i64 b] w fun e w' => e = .returned (.tuple #[.int .i64 (arR op a b).1, .int .i64 (arR op a b).2]) ∧ Bel w w' := by
  rcases ar_cases h1 h2 with rfl | rfl | rfl | rfl | rfl | rfl
  · exact specCompute_20 a b w ha hb
  · exact specCompute_21 a b w ha hb
  · have := specCompute_22 a b w ha hb
    rw [show (arR 22 a b).1 = mulV a b by unfold arR mulV; cases mulOk a b <;> rfl, show (arR 22 a b).2 = mulC a b by unfold arR mulC; cases mulOk a b <;> rfl]
    exact this
  · by_cases h0 : b = 0
    · subst h0
      exact specCompute_0 23 a w (by decide)
    · rw [show arR 23 a b = (a.tdiv b, 0) by simp [arR, h0, rng_of (tdiv_in ha h0)]]
      exact specCompute_23 a b w ha hb h0
  · by_cases h0 : b = 0
    · subst h0
      exact specCompute_0 24 a w (by decide)
    · rw [show arR 24 a b = (a.tmod b, 0) by simp [arR, h0, rng_of (tmod_in (b := b) ha)]]
      exact specCompute_24 a b w ha hb h0
  · rw [show arR 25 a b = powR a b by simp [arR]]
    have HI := hide (fun w => specPower_any a b w ha hb)
    go_enter Tryd.func87, Tryd.ntmps87
    go_wp2_with ((go_at_call 106; refine (HI.out _).mono ?_; rintro e w1 ⟨rfl, hb1⟩; have hz1 := hb1.size; (try simp only [World.size_alloc, World.size_setCell, World.size_drew] at hz1); (try simp only [VVal.val])))
    all_goals
      go_returns
      exact ⟨rfl, (by repeat' (first | with_reducible exact Bel.refl _ | with_reducible assumption | with_reducible refine Bel.set ?_ ?_ _ | with_reducible refine Bel.alloc ?_ _ | with_reducible refine Bel.drew ?_ | with_reducible refine Bel.drewN ?_ _ | with_reducible refine Bel.trans ?_ (by with_reducible assumption) | (simp; done) | (simp; omega) | refine Bel.alloc ?_ _ | refine Bel.drew ?_ | refine Bel.drewN ?_ _ | refine Bel.set ?_ ?_ _))⟩

end Go.Proofs.YtmikipcfepgogaaDoor
