/- UnaryValue, both sides. -/
import Derived.Test.YtficlopcolglnaaDoorE15
import Derived.Test.YtficlopcolglnaaDoorA7b
import Derived.Test.YtficlopcolglnaaDoorBox
namespace Go.Proofs.YtficlopcolglnaaDoor
set_option linter.unusedVariables false
set_option linter.unusedSimpArgs false
set_option maxRecDepth 100000
open Go.RowKit

def cmpl (x : Int) : Int := bits .xor .i64 (-1) x
/-- What UnaryValue returns for a value that is well formed. -/
def unV (op : Int) (v : VVal) : VVal := if op = 6 then (if tcB v then VVal.ofSet (cmpl (tcLo v)) (cmpl (tcHi v)) else VVal.zero) else if tiB v then VVal.ofInt (if op = 1 then wrap64 (-tiN v) else tiN v) else VVal.zero
def unC (op : Int) (v : VVal) : Int := if op = 6 then (if tcB v then 0 else 104) else if tiB v then 0 else 101
def uBad (op : Int) (v : VVal) : Bool := !(decide (op = 1) || decide (op = 2) || decide (op = 6)) || !wellB v
def unaV (op : Int) (v : VVal) : VVal := if uBad op v then VVal.zero else unV op v
def unaC (op : Int) (v : VVal) : Int := if uBad op v then 205 else unC op v

set_option maxHeartbeats 400000 in
theorem specCompl_any (lo hi : Int) (w : World) :
    Calls Tryd.prog 81 #[.agg #[.int .i64 lo, .int .i64 hi]] w fun e w' => e = .returned (.agg #[.int .i64 (cmpl lo), .int .i64 (cmpl hi)]) ∧ Bel w w' := by
  go_enter Tryd.func81, Tryd.ntmps81
  go_wp2
  go_returns
  exact ⟨rfl, (by repeat' (first | exact Bel.refl _ | with_reducible assumption | refine Bel.trans ?_ (by with_reducible assumption) | refine Bel.alloc ?_ _ | refine Bel.drew ?_ | refine Bel.drewN ?_ _ | refine Bel.set ?_ ?_ _ | (simp; done) | (simp; omega)))⟩
set_option maxHeartbeats 400000 in
theorem implCompl_any (lo hi : Int) (w : World) :
    Calls Tryd.prog 63 #[.agg #[.int .i64 lo, .int .i64 hi]] w fun e w' => e = .returned (.agg #[.int .i64 (cmpl lo), .int .i64 (cmpl hi)]) ∧ Bel w w' := by
  go_enter Tryd.func63, Tryd.ntmps63
  go_wp2
  go_returns
  exact ⟨rfl, (by repeat' (first | exact Bel.refl _ | with_reducible assumption | refine Bel.trans ?_ (by with_reducible assumption) | refine Bel.alloc ?_ _ | refine Bel.drew ?_ | refine Bel.drewN ?_ _ | refine Bel.set ?_ ?_ _ | (simp; done) | (simp; omega)))⟩
set_option maxHeartbeats 400000 in
theorem l11Cset_any (lo hi : Int) (w : World) :
    Calls Tryd.prog 80 #[.agg #[.int .i64 lo, .int .i64 hi]] w fun e w' => e = .returned (.agg #[.int .i64 3, .int .i64 0, .int .i64 0, .string ByteArray.empty, .int .i64 lo, .int .i64 hi]) ∧ Bel w w' := by
  go_enter Tryd.func80, Tryd.ntmps80
  go_wp2
  go_returns
  exact ⟨rfl, (by repeat' (first | exact Bel.refl _ | with_reducible assumption | refine Bel.trans ?_ (by with_reducible assumption) | refine Bel.alloc ?_ _ | refine Bel.drew ?_ | refine Bel.drewN ?_ _ | refine Bel.set ?_ ?_ _ | (simp; done) | (simp; omega)))⟩
theorem l11Int_ex (n : Int) (w : World) :
    Calls Tryd.prog 68 #[.int .i64 n] w fun e w' => e = .returned (.agg #[.int .i64 1, .int .i64 n, .int .i64 0, .string ByteArray.empty, .int .i64 0, .int .i64 0]) ∧ Bel w w' := l11Int_any n w

set_option maxHeartbeats 1000000 in
theorem specUn_set_yes (v : VVal) (w : World) (hv : v.Ok) (hb : tcB v = true) :
    Calls Tryd.prog 62 #[.int .i64 6, v.val] w fun e w' => e = .returned (.tuple #[.agg #[.int .i64 3, .int .i64 0, .int .i64 0, .string ByteArray.empty, .int .i64 (cmpl (tcLo v)), .int .i64 (cmpl (tcHi v))], .int .i64 0]) ∧ Bel w w' := by
  obtain ⟨k, n, i, t, lo, hi⟩ := v
  simp only [VVal.val]
  have HB := hide hb
  clear hb
  go_enter Tryd.func62, Tryd.ntmps62
  go_wp2_with (first
  | ((go_at_call 33; refine (specToCset_any ⟨k, n, i, t, lo, hi⟩ _ hv).mono ?_; rintro e w1 ⟨rfl, hb1⟩; have hz1 := hb1.size; (try simp only [World.size_alloc, World.size_setCell, World.size_drew] at hz1); have hk1_0 := hb1.box (w.heap.size) (by first | (simp; done) | (simp; omega) | omega); have hf1_0 := hb1.boxf (w.heap.size) (by first | (simp; done) | (simp; omega) | omega); have hl1_0 : w.heap.size < w1.heap.size := (by omega); have hn1_0 : ¬ w.heap.size = w1.heap.size := (by omega); (try simp only [VVal.val]); have Z1 := Z6.on Z6.new hb1; (try simp only [World.size_alloc] at Z1); have Y1 := Z1; obtain ⟨cc1_0, cc1_1, cc1_2, cc1_3, cc1_4, cc1_5, cf1, cl1⟩ := Y1); simp only [HB.out])
  | (go_at_call 81; refine (specCompl_any _ _ _).mono ?_; rintro e w2 ⟨rfl, hb2⟩; have hz2 := hb2.size; (try simp only [World.size_alloc, World.size_setCell, World.size_drew] at hz2); have hk2_0 := hb2.box (w.heap.size) (by first | (simp; done) | (simp; omega) | omega); have hf2_0 := hb2.boxf (w.heap.size) (by first | (simp; done) | (simp; omega) | omega); have hl2_0 : w.heap.size < w2.heap.size := (by omega); have hn2_0 : ¬ w.heap.size = w2.heap.size := (by omega); (try simp only [VVal.val]); have Z2 : Z6 w2 _ := Z6.on Z1 (by repeat' (first | exact Bel.refl _ | with_reducible assumption | refine Bel.trans ?_ (by with_reducible assumption) | refine Bel.alloc ?_ _ | refine Bel.drew ?_ | refine Bel.drewN ?_ _ | refine Bel.set ?_ ?_ _ | (simp; done) | (simp; omega))); have Y2 := Z2; obtain ⟨cc2_0, cc2_1, cc2_2, cc2_3, cc2_4, cc2_5, cf2, cl2⟩ := Y2)
  | (go_at_call 80; refine (l11Cset_any _ _ _).mono ?_; rintro e w3 ⟨rfl, hb3⟩; have hz3 := hb3.size; (try simp only [World.size_alloc, World.size_setCell, World.size_drew] at hz3); have hk3_0 := hb3.box (w.heap.size) (by first | (simp; done) | (simp; omega) | omega); have hf3_0 := hb3.boxf (w.heap.size) (by first | (simp; done) | (simp; omega) | omega); have hl3_0 : w.heap.size < w3.heap.size := (by omega); have hn3_0 : ¬ w.heap.size = w3.heap.size := (by omega); (try simp only [VVal.val]); have Z3 : Z6 w3 _ := Z6.on Z2 (by repeat' (first | exact Bel.refl _ | with_reducible assumption | refine Bel.trans ?_ (by with_reducible assumption) | refine Bel.alloc ?_ _ | refine Bel.drew ?_ | refine Bel.drewN ?_ _ | refine Bel.set ?_ ?_ _ | (simp; done) | (simp; omega))); have Y3 := Z3; obtain ⟨cc3_0, cc3_1, cc3_2, cc3_3, cc3_4, cc3_5, cf3, cl3⟩ := Y3))
  all_goals (refine gen_ret6 Z3 fun wz d0 d1 d2 d3 d4 d5 hbz => ?_; exact bodyPost_ret (by simp [results, Tryd.results62, d0, d1, d2, d3, d4, d5, go_sem]; try rfl) rfl ⟨rfl, hbz _ (by repeat' (first | exact Bel.refl _ | with_reducible assumption | refine Bel.trans ?_ (by with_reducible assumption) | refine Bel.alloc ?_ _ | refine Bel.drew ?_ | refine Bel.drewN ?_ _ | refine Bel.set ?_ ?_ _ | (simp; done) | (simp; omega))) (by omega)⟩)

set_option maxHeartbeats 1000000 in
theorem specUn_set_no (v : VVal) (w : World) (hv : v.Ok) (hb : tcB v = false) :
    Calls Tryd.prog 62 #[.int .i64 6, v.val] w fun e w' => e = .returned (.tuple #[.agg #[.int .i64 0, .int .i64 0, .int .i64 0, .string ByteArray.empty, .int .i64 0, .int .i64 0], .int .i64 104]) ∧ Bel w w' := by
  obtain ⟨k, n, i, t, lo, hi⟩ := v
  simp only [VVal.val]
  have HB := hide hb
  clear hb
  go_enter Tryd.func62, Tryd.ntmps62
  go_upto_region 4 with (first
  | ((go_at_call 33; refine (specToCset_any ⟨k, n, i, t, lo, hi⟩ _ hv).mono ?_; rintro e w1 ⟨rfl, hb1⟩; have hz1 := hb1.size; (try simp only [World.size_alloc, World.size_setCell, World.size_drew] at hz1); have hk1_0 := hb1.box (w.heap.size) (by first | (simp; done) | (simp; omega) | omega); have hf1_0 := hb1.boxf (w.heap.size) (by first | (simp; done) | (simp; omega) | omega); have hl1_0 : w.heap.size < w1.heap.size := (by omega); have hn1_0 : ¬ w.heap.size = w1.heap.size := (by omega); (try simp only [VVal.val]); have Z1 := Z6.on Z6.new hb1; (try simp only [World.size_alloc] at Z1); have Y1 := Z1; obtain ⟨cc1_0, cc1_1, cc1_2, cc1_3, cc1_4, cc1_5, cf1, cl1⟩ := Y1); simp only [HB.out]))
  refine gen_world hb1 (by repeat' (first | exact Bel.refl _ | with_reducible assumption | refine Bel.trans ?_ (by with_reducible assumption) | refine Bel.alloc ?_ _ | refine Bel.drew ?_ | refine Bel.drewN ?_ _ | refine Bel.set ?_ ?_ _ | (simp; done) | (simp; omega))) fun w2 hb2 => ?_
  have Z := Z6.on Z6.new hb2
  have b0 : Bel w w2 := Bel.trans (by repeat' (first | exact Bel.refl _ | with_reducible assumption | refine Bel.trans ?_ (by with_reducible assumption) | refine Bel.alloc ?_ _ | refine Bel.drew ?_ | refine Bel.drewN ?_ _ | refine Bel.set ?_ ?_ _ | (simp; done) | (simp; omega))) hb2
  simp only [World.size_alloc] at Z
  have Z' := Z
  obtain ⟨c0, c1, c2, c3, c4, c5, f, l⟩ := Z'
  clear hb1 hz1 hk1_0 hf1_0 hl1_0 hn1_0 hb2 Z1 cc1_0 cc1_1 cc1_2 cc1_3 cc1_4 cc1_5 cf1 cl1
  go_wp2_with (fail)
  all_goals (refine gen_ret6 Z fun wz d0 d1 d2 d3 d4 d5 hbz => ?_; exact bodyPost_ret (by simp [results, Tryd.results62, d0, d1, d2, d3, d4, d5, go_sem]; try rfl) rfl ⟨rfl, hbz _ (by repeat' (first | exact Bel.refl _ | with_reducible assumption | refine Bel.trans ?_ (by with_reducible assumption) | refine Bel.alloc ?_ _ | refine Bel.drew ?_ | refine Bel.drewN ?_ _ | refine Bel.set ?_ ?_ _ | (simp; done) | (simp; omega))) (by omega)⟩)

set_option maxHeartbeats 1000000 in
theorem specUn_neg_yes (v : VVal) (w : World) (hv : v.Ok) (hb : tiB v = true) :
    Calls Tryd.prog 62 #[.int .i64 1, v.val] w fun e w' => e = .returned (.tuple #[.agg #[.int .i64 1, .int .i64 (wrap64 (-tiN v)), .int .i64 0, .string ByteArray.empty, .int .i64 0, .int .i64 0], .int .i64 0]) ∧ Bel w w' := by
  obtain ⟨k, n, i, t, lo, hi⟩ := v
  simp only [VVal.val]
  have HB := hide hb
  clear hb
  go_enter Tryd.func62, Tryd.ntmps62
  go_wp2_with (first
  | ((go_at_call 36; refine (specToInteger_any ⟨k, n, i, t, lo, hi⟩ _ hv).mono ?_; rintro e w1 ⟨rfl, hb1⟩; have hz1 := hb1.size; (try simp only [World.size_alloc, World.size_setCell, World.size_drew] at hz1); have hk1_0 := hb1.box (w.heap.size) (by first | (simp; done) | (simp; omega) | omega); have hf1_0 := hb1.boxf (w.heap.size) (by first | (simp; done) | (simp; omega) | omega); have hl1_0 : w.heap.size < w1.heap.size := (by omega); have hn1_0 : ¬ w.heap.size = w1.heap.size := (by omega); (try simp only [VVal.val]); have Z1 := Z6.on Z6.new hb1; (try simp only [World.size_alloc] at Z1); have Y1 := Z1; obtain ⟨cc1_0, cc1_1, cc1_2, cc1_3, cc1_4, cc1_5, cf1, cl1⟩ := Y1); simp only [HB.out])
  | (go_at_call 68; refine (l11Int_ex _ _).mono ?_; rintro e w3 ⟨rfl, hb3⟩; have hz3 := hb3.size; (try simp only [World.size_alloc, World.size_setCell, World.size_drew] at hz3); have hk3_0 := hb3.box (w.heap.size) (by first | (simp; done) | (simp; omega) | omega); have hf3_0 := hb3.boxf (w.heap.size) (by first | (simp; done) | (simp; omega) | omega); have hl3_0 : w.heap.size < w3.heap.size := (by omega); have hn3_0 : ¬ w.heap.size = w3.heap.size := (by omega); (try simp only [VVal.val]); have Z3 : Z6 w3 _ := Z6.on Z1 (by repeat' (first | exact Bel.refl _ | with_reducible assumption | refine Bel.trans ?_ (by with_reducible assumption) | refine Bel.alloc ?_ _ | refine Bel.drew ?_ | refine Bel.drewN ?_ _ | refine Bel.set ?_ ?_ _ | (simp; done) | (simp; omega))); have Y3 := Z3; obtain ⟨cc3_0, cc3_1, cc3_2, cc3_3, cc3_4, cc3_5, cf3, cl3⟩ := Y3))
  all_goals (refine gen_ret6 Z3 fun wz d0 d1 d2 d3 d4 d5 hbz => ?_; exact bodyPost_ret (by simp [results, Tryd.results62, d0, d1, d2, d3, d4, d5, go_sem]; try rfl) rfl ⟨rfl, hbz _ (by repeat' (first | exact Bel.refl _ | with_reducible assumption | refine Bel.trans ?_ (by with_reducible assumption) | refine Bel.alloc ?_ _ | refine Bel.drew ?_ | refine Bel.drewN ?_ _ | refine Bel.set ?_ ?_ _ | (simp; done) | (simp; omega))) (by omega)⟩)

set_option maxHeartbeats 1000000 in
theorem specUn_neg_no (v : VVal) (w : World) (hv : v.Ok) (hb : tiB v = false) :
    Calls Tryd.prog 62 #[.int .i64 1, v.val] w fun e w' => e = .returned (.tuple #[.agg #[.int .i64 0, .int .i64 0, .int .i64 0, .string ByteArray.empty, .int .i64 0, .int .i64 0], .int .i64 101]) ∧ Bel w w' := by
  obtain ⟨k, n, i, t, lo, hi⟩ := v
  simp only [VVal.val]
  have HB := hide hb
  clear hb
  go_enter Tryd.func62, Tryd.ntmps62
  go_wp2_with (first
  | ((go_at_call 36; refine (specToInteger_any ⟨k, n, i, t, lo, hi⟩ _ hv).mono ?_; rintro e w1 ⟨rfl, hb1⟩; have hz1 := hb1.size; (try simp only [World.size_alloc, World.size_setCell, World.size_drew] at hz1); have hk1_0 := hb1.box (w.heap.size) (by first | (simp; done) | (simp; omega) | omega); have hf1_0 := hb1.boxf (w.heap.size) (by first | (simp; done) | (simp; omega) | omega); have hl1_0 : w.heap.size < w1.heap.size := (by omega); have hn1_0 : ¬ w.heap.size = w1.heap.size := (by omega); (try simp only [VVal.val]); have Z1 := Z6.on Z6.new hb1; (try simp only [World.size_alloc] at Z1); have Y1 := Z1; obtain ⟨cc1_0, cc1_1, cc1_2, cc1_3, cc1_4, cc1_5, cf1, cl1⟩ := Y1); simp only [HB.out]))
  all_goals (refine gen_ret6 Z1 fun wz d0 d1 d2 d3 d4 d5 hbz => ?_; exact bodyPost_ret (by simp [results, Tryd.results62, d0, d1, d2, d3, d4, d5, go_sem]; try rfl) rfl ⟨rfl, hbz _ (by repeat' (first | exact Bel.refl _ | with_reducible assumption | refine Bel.trans ?_ (by with_reducible assumption) | refine Bel.alloc ?_ _ | refine Bel.drew ?_ | refine Bel.drewN ?_ _ | refine Bel.set ?_ ?_ _ | (simp; done) | (simp; omega))) (by omega)⟩)

set_option maxHeartbeats 1000000 in
theorem specUn_pos_yes (v : VVal) (w : World) (hv : v.Ok) (hb : tiB v = true) :
    Calls Tryd.prog 62 #[.int .i64 2, v.val] w fun e w' => e = .returned (.tuple #[.agg #[.int .i64 1, .int .i64 (tiN v), .int .i64 0, .string ByteArray.empty, .int .i64 0, .int .i64 0], .int .i64 0]) ∧ Bel w w' := by
  obtain ⟨k, n, i, t, lo, hi⟩ := v
  simp only [VVal.val]
  have HB := hide hb
  clear hb
  go_enter Tryd.func62, Tryd.ntmps62
  go_wp2_with (first
  | ((go_at_call 36; refine (specToInteger_any ⟨k, n, i, t, lo, hi⟩ _ hv).mono ?_; rintro e w1 ⟨rfl, hb1⟩; have hz1 := hb1.size; (try simp only [World.size_alloc, World.size_setCell, World.size_drew] at hz1); have hk1_0 := hb1.box (w.heap.size) (by first | (simp; done) | (simp; omega) | omega); have hf1_0 := hb1.boxf (w.heap.size) (by first | (simp; done) | (simp; omega) | omega); have hl1_0 : w.heap.size < w1.heap.size := (by omega); have hn1_0 : ¬ w.heap.size = w1.heap.size := (by omega); (try simp only [VVal.val]); have Z1 := Z6.on Z6.new hb1; (try simp only [World.size_alloc] at Z1); have Y1 := Z1; obtain ⟨cc1_0, cc1_1, cc1_2, cc1_3, cc1_4, cc1_5, cf1, cl1⟩ := Y1); simp only [HB.out])
  | (go_at_call 68; refine (l11Int_ex _ _).mono ?_; rintro e w3 ⟨rfl, hb3⟩; have hz3 := hb3.size; (try simp only [World.size_alloc, World.size_setCell, World.size_drew] at hz3); have hk3_0 := hb3.box (w.heap.size) (by first | (simp; done) | (simp; omega) | omega); have hf3_0 := hb3.boxf (w.heap.size) (by first | (simp; done) | (simp; omega) | omega); have hl3_0 : w.heap.size < w3.heap.size := (by omega); have hn3_0 : ¬ w.heap.size = w3.heap.size := (by omega); (try simp only [VVal.val]); have Z3 : Z6 w3 _ := Z6.on Z1 (by repeat' (first | exact Bel.refl _ | with_reducible assumption | refine Bel.trans ?_ (by with_reducible assumption) | refine Bel.alloc ?_ _ | refine Bel.drew ?_ | refine Bel.drewN ?_ _ | refine Bel.set ?_ ?_ _ | (simp; done) | (simp; omega))); have Y3 := Z3; obtain ⟨cc3_0, cc3_1, cc3_2, cc3_3, cc3_4, cc3_5, cf3, cl3⟩ := Y3))
  all_goals (refine gen_ret6 Z3 fun wz d0 d1 d2 d3 d4 d5 hbz => ?_; exact bodyPost_ret (by simp [results, Tryd.results62, d0, d1, d2, d3, d4, d5, go_sem]; try rfl) rfl ⟨rfl, hbz _ (by repeat' (first | exact Bel.refl _ | with_reducible assumption | refine Bel.trans ?_ (by with_reducible assumption) | refine Bel.alloc ?_ _ | refine Bel.drew ?_ | refine Bel.drewN ?_ _ | refine Bel.set ?_ ?_ _ | (simp; done) | (simp; omega))) (by omega)⟩)

set_option maxHeartbeats 1000000 in
theorem specUn_pos_no (v : VVal) (w : World) (hv : v.Ok) (hb : tiB v = false) :
    Calls Tryd.prog 62 #[.int .i64 2, v.val] w fun e w' => e = .returned (.tuple #[.agg #[.int .i64 0, .int .i64 0, .int .i64 0, .string ByteArray.empty, .int .i64 0, .int .i64 0], .int .i64 101]) ∧ Bel w w' := by
  obtain ⟨k, n, i, t, lo, hi⟩ := v
  simp only [VVal.val]
  have HB := hide hb
  clear hb
  go_enter Tryd.func62, Tryd.ntmps62
  go_wp2_with (first
  | ((go_at_call 36; refine (specToInteger_any ⟨k, n, i, t, lo, hi⟩ _ hv).mono ?_; rintro e w1 ⟨rfl, hb1⟩; have hz1 := hb1.size; (try simp only [World.size_alloc, World.size_setCell, World.size_drew] at hz1); have hk1_0 := hb1.box (w.heap.size) (by first | (simp; done) | (simp; omega) | omega); have hf1_0 := hb1.boxf (w.heap.size) (by first | (simp; done) | (simp; omega) | omega); have hl1_0 : w.heap.size < w1.heap.size := (by omega); have hn1_0 : ¬ w.heap.size = w1.heap.size := (by omega); (try simp only [VVal.val]); have Z1 := Z6.on Z6.new hb1; (try simp only [World.size_alloc] at Z1); have Y1 := Z1; obtain ⟨cc1_0, cc1_1, cc1_2, cc1_3, cc1_4, cc1_5, cf1, cl1⟩ := Y1); simp only [HB.out]))
  all_goals (refine gen_ret6 Z1 fun wz d0 d1 d2 d3 d4 d5 hbz => ?_; exact bodyPost_ret (by simp [results, Tryd.results62, d0, d1, d2, d3, d4, d5, go_sem]; try rfl) rfl ⟨rfl, hbz _ (by repeat' (first | exact Bel.refl _ | with_reducible assumption | refine Bel.trans ?_ (by with_reducible assumption) | refine Bel.alloc ?_ _ | refine Bel.drew ?_ | refine Bel.drewN ?_ _ | refine Bel.set ?_ ?_ _ | (simp; done) | (simp; omega))) (by omega)⟩)

set_option maxHeartbeats 1000000 in
theorem implUn_set_yes (v : VVal) (w : World) (hv : v.Ok) (htab : P10 w) (hw : wellB v = true) (hb : tcB v = true) :
    Calls Tryd.prog 38 #[.int .i64 6, v.val] w fun e w' => e = .returned (.tuple #[.agg #[.int .i64 3, .int .i64 0, .int .i64 0, .string ByteArray.empty, .int .i64 (cmpl (tcLo v)), .int .i64 (cmpl (tcHi v))], .int .i64 0]) ∧ Bel w w' := by
  obtain ⟨k, n, i, t, lo, hi⟩ := v
  simp only [VVal.val]
  have HB := hide hb
  clear hb
  have HW := hide hw
  clear hw
  go_enter Tryd.func38, Tryd.ntmps38
  go_wp2_with (first
  | ((go_at_call 32; refine (implIsWellFormed_any ⟨k, n, i, t, lo, hi⟩ _ hv).mono ?_; rintro e w7 ⟨rfl, hb7⟩; have hz7 := hb7.size; (try simp only [World.size_alloc, World.size_setCell, World.size_drew] at hz7); have hk7_0 := hb7.box (w.heap.size) (by first | (simp; done) | (simp; omega) | omega); have hf7_0 := hb7.boxf (w.heap.size) (by first | (simp; done) | (simp; omega) | omega); have hl7_0 : w.heap.size < w7.heap.size := (by omega); have hn7_0 : ¬ w.heap.size = w7.heap.size := (by omega); (try simp only [VVal.val]); have Z7 := Z6.on Z6.new hb7; (try simp only [World.size_alloc] at Z7); have Y7 := Z7; obtain ⟨cc7_0, cc7_1, cc7_2, cc7_3, cc7_4, cc7_5, cf7, cl7⟩ := Y7); simp only [HW.out])
  | ((go_at_call 34; refine (implToCset_any ⟨k, n, i, t, lo, hi⟩ _ hv (htab.on (by repeat' (first | exact Bel.refl _ | with_reducible assumption | refine Bel.trans ?_ (by with_reducible assumption) | refine Bel.alloc ?_ _ | refine Bel.drew ?_ | refine Bel.drewN ?_ _ | refine Bel.set ?_ ?_ _ | (simp; done) | (simp; omega) | omega)))).mono ?_; rintro e w1 ⟨rfl, hb1⟩; have hz1 := hb1.size; (try simp only [World.size_alloc, World.size_setCell, World.size_drew] at hz1); have hk1_0 := hb1.box (w.heap.size) (by first | (simp; done) | (simp; omega) | omega); have hf1_0 := hb1.boxf (w.heap.size) (by first | (simp; done) | (simp; omega) | omega); have hl1_0 : w.heap.size < w1.heap.size := (by omega); have hn1_0 : ¬ w.heap.size = w1.heap.size := (by omega); (try simp only [VVal.val]); have Z1 : Z6 w1 _ := Z6.on Z7 (by repeat' (first | exact Bel.refl _ | with_reducible assumption | refine Bel.trans ?_ (by with_reducible assumption) | refine Bel.alloc ?_ _ | refine Bel.drew ?_ | refine Bel.drewN ?_ _ | refine Bel.set ?_ ?_ _ | (simp; done) | (simp; omega))); have Y1 := Z1; obtain ⟨cc1_0, cc1_1, cc1_2, cc1_3, cc1_4, cc1_5, cf1, cl1⟩ := Y1); simp only [HB.out])
  | (go_at_call 63; refine (implCompl_any _ _ _).mono ?_; rintro e w2 ⟨rfl, hb2⟩; have hz2 := hb2.size; (try simp only [World.size_alloc, World.size_setCell, World.size_drew] at hz2); have hk2_0 := hb2.box (w.heap.size) (by first | (simp; done) | (simp; omega) | omega); have hf2_0 := hb2.boxf (w.heap.size) (by first | (simp; done) | (simp; omega) | omega); have hl2_0 : w.heap.size < w2.heap.size := (by omega); have hn2_0 : ¬ w.heap.size = w2.heap.size := (by omega); (try simp only [VVal.val]); have Z2 : Z6 w2 _ := Z6.on Z1 (by repeat' (first | exact Bel.refl _ | with_reducible assumption | refine Bel.trans ?_ (by with_reducible assumption) | refine Bel.alloc ?_ _ | refine Bel.drew ?_ | refine Bel.drewN ?_ _ | refine Bel.set ?_ ?_ _ | (simp; done) | (simp; omega))); have Y2 := Z2; obtain ⟨cc2_0, cc2_1, cc2_2, cc2_3, cc2_4, cc2_5, cf2, cl2⟩ := Y2)
)
  all_goals (refine gen_ret6 Z2 fun wz d0 d1 d2 d3 d4 d5 hbz => ?_; exact bodyPost_ret (by simp [results, Tryd.results38, d0, d1, d2, d3, d4, d5, go_sem]; try rfl) rfl ⟨rfl, hbz _ (by repeat' (first | exact Bel.refl _ | with_reducible assumption | refine Bel.trans ?_ (by with_reducible assumption) | refine Bel.alloc ?_ _ | refine Bel.drew ?_ | refine Bel.drewN ?_ _ | refine Bel.set ?_ ?_ _ | (simp; done) | (simp; omega))) (by omega)⟩)

set_option maxHeartbeats 1000000 in
theorem implUn_set_no (v : VVal) (w : World) (hv : v.Ok) (htab : P10 w) (hw : wellB v = true) (hb : tcB v = false) :
    Calls Tryd.prog 38 #[.int .i64 6, v.val] w fun e w' => e = .returned (.tuple #[.agg #[.int .i64 0, .int .i64 0, .int .i64 0, .string ByteArray.empty, .int .i64 0, .int .i64 0], .int .i64 104]) ∧ Bel w w' := by
  obtain ⟨k, n, i, t, lo, hi⟩ := v
  simp only [VVal.val]
  have HB := hide hb
  clear hb
  have HW := hide hw
  clear hw
  go_enter Tryd.func38, Tryd.ntmps38
  go_upto_region 6 with (first
  | ((go_at_call 32; refine (implIsWellFormed_any ⟨k, n, i, t, lo, hi⟩ _ hv).mono ?_; rintro e w7 ⟨rfl, hb7⟩; have hz7 := hb7.size; (try simp only [World.size_alloc, World.size_setCell, World.size_drew] at hz7); have hk7_0 := hb7.box (w.heap.size) (by first | (simp; done) | (simp; omega) | omega); have hf7_0 := hb7.boxf (w.heap.size) (by first | (simp; done) | (simp; omega) | omega); have hl7_0 : w.heap.size < w7.heap.size := (by omega); have hn7_0 : ¬ w.heap.size = w7.heap.size := (by omega); (try simp only [VVal.val]); have Z7 := Z6.on Z6.new hb7; (try simp only [World.size_alloc] at Z7); have Y7 := Z7; obtain ⟨cc7_0, cc7_1, cc7_2, cc7_3, cc7_4, cc7_5, cf7, cl7⟩ := Y7); simp only [HW.out])
  | ((go_at_call 34; refine (implToCset_any ⟨k, n, i, t, lo, hi⟩ _ hv (htab.on (by repeat' (first | exact Bel.refl _ | with_reducible assumption | refine Bel.trans ?_ (by with_reducible assumption) | refine Bel.alloc ?_ _ | refine Bel.drew ?_ | refine Bel.drewN ?_ _ | refine Bel.set ?_ ?_ _ | (simp; done) | (simp; omega) | omega)))).mono ?_; rintro e w1 ⟨rfl, hb1⟩; have hz1 := hb1.size; (try simp only [World.size_alloc, World.size_setCell, World.size_drew] at hz1); have hk1_0 := hb1.box (w.heap.size) (by first | (simp; done) | (simp; omega) | omega); have hf1_0 := hb1.boxf (w.heap.size) (by first | (simp; done) | (simp; omega) | omega); have hl1_0 : w.heap.size < w1.heap.size := (by omega); have hn1_0 : ¬ w.heap.size = w1.heap.size := (by omega); (try simp only [VVal.val]); have Z1 : Z6 w1 _ := Z6.on Z7 (by repeat' (first | exact Bel.refl _ | with_reducible assumption | refine Bel.trans ?_ (by with_reducible assumption) | refine Bel.alloc ?_ _ | refine Bel.drew ?_ | refine Bel.drewN ?_ _ | refine Bel.set ?_ ?_ _ | (simp; done) | (simp; omega))); have Y1 := Z1; obtain ⟨cc1_0, cc1_1, cc1_2, cc1_3, cc1_4, cc1_5, cf1, cl1⟩ := Y1); simp only [HB.out]))
  refine gen_world (hb7.trans hb1) (by repeat' (first | exact Bel.refl _ | with_reducible assumption | refine Bel.trans ?_ (by with_reducible assumption) | refine Bel.alloc ?_ _ | refine Bel.drew ?_ | refine Bel.drewN ?_ _ | refine Bel.set ?_ ?_ _ | (simp; done) | (simp; omega))) fun w2 hb2 => ?_
  have Z := Z6.on Z6.new hb2
  have b0 : Bel w w2 := Bel.trans (by repeat' (first | exact Bel.refl _ | with_reducible assumption | refine Bel.trans ?_ (by with_reducible assumption) | refine Bel.alloc ?_ _ | refine Bel.drew ?_ | refine Bel.drewN ?_ _ | refine Bel.set ?_ ?_ _ | (simp; done) | (simp; omega))) hb2
  simp only [World.size_alloc] at Z
  have Z' := Z
  obtain ⟨c0, c1, c2, c3, c4, c5, f, l⟩ := Z'
  clear hb1 hz1 hk1_0 hf1_0 hl1_0 hn1_0 hb2 Z1 cc1_0 cc1_1 cc1_2 cc1_3 cc1_4 cc1_5 cf1 cl1 hb7 hz7 hk7_0 hf7_0 hl7_0 hn7_0 Z7 cc7_0 cc7_1 cc7_2 cc7_3 cc7_4 cc7_5 cf7 cl7
  go_wp2_with (fail)
  all_goals (refine gen_ret6 Z fun wz d0 d1 d2 d3 d4 d5 hbz => ?_; exact bodyPost_ret (by simp [results, Tryd.results38, d0, d1, d2, d3, d4, d5, go_sem]; try rfl) rfl ⟨rfl, hbz _ (by repeat' (first | exact Bel.refl _ | with_reducible assumption | refine Bel.trans ?_ (by with_reducible assumption) | refine Bel.alloc ?_ _ | refine Bel.drew ?_ | refine Bel.drewN ?_ _ | refine Bel.set ?_ ?_ _ | (simp; done) | (simp; omega))) (by omega)⟩)

set_option maxHeartbeats 1000000 in
theorem implUn_neg_yes (v : VVal) (w : World) (hv : v.Ok) (htab : P10 w) (hw : wellB v = true) (hb : tiB v = true) :
    Calls Tryd.prog 38 #[.int .i64 1, v.val] w fun e w' => e = .returned (.tuple #[.agg #[.int .i64 1, .int .i64 (wrap64 (-tiN v)), .int .i64 0, .string ByteArray.empty, .int .i64 0, .int .i64 0], .int .i64 0]) ∧ Bel w w' := by
  obtain ⟨k, n, i, t, lo, hi⟩ := v
  simp only [VVal.val]
  have HB := hide hb
  clear hb
  have HW := hide hw
  clear hw
  go_enter Tryd.func38, Tryd.ntmps38
  go_wp2_with (first
  | ((go_at_call 32; refine (implIsWellFormed_any ⟨k, n, i, t, lo, hi⟩ _ hv).mono ?_; rintro e w7 ⟨rfl, hb7⟩; have hz7 := hb7.size; (try simp only [World.size_alloc, World.size_setCell, World.size_drew] at hz7); have hk7_0 := hb7.box (w.heap.size) (by first | (simp; done) | (simp; omega) | omega); have hf7_0 := hb7.boxf (w.heap.size) (by first | (simp; done) | (simp; omega) | omega); have hl7_0 : w.heap.size < w7.heap.size := (by omega); have hn7_0 : ¬ w.heap.size = w7.heap.size := (by omega); (try simp only [VVal.val]); have Z7 := Z6.on Z6.new hb7; (try simp only [World.size_alloc] at Z7); have Y7 := Z7; obtain ⟨cc7_0, cc7_1, cc7_2, cc7_3, cc7_4, cc7_5, cf7, cl7⟩ := Y7); simp only [HW.out])
  | ((go_at_call 31; refine (implToInteger_any ⟨k, n, i, t, lo, hi⟩ _ hv (htab.on (by repeat' (first | exact Bel.refl _ | with_reducible assumption | refine Bel.trans ?_ (by with_reducible assumption) | refine Bel.alloc ?_ _ | refine Bel.drew ?_ | refine Bel.drewN ?_ _ | refine Bel.set ?_ ?_ _ | (simp; done) | (simp; omega) | omega)))).mono ?_; rintro e w1 ⟨rfl, hb1⟩; have hz1 := hb1.size; (try simp only [World.size_alloc, World.size_setCell, World.size_drew] at hz1); have hk1_0 := hb1.box (w.heap.size) (by first | (simp; done) | (simp; omega) | omega); have hf1_0 := hb1.boxf (w.heap.size) (by first | (simp; done) | (simp; omega) | omega); have hl1_0 : w.heap.size < w1.heap.size := (by omega); have hn1_0 : ¬ w.heap.size = w1.heap.size := (by omega); (try simp only [VVal.val]); have Z1 : Z6 w1 _ := Z6.on Z7 (by repeat' (first | exact Bel.refl _ | with_reducible assumption | refine Bel.trans ?_ (by with_reducible assumption) | refine Bel.alloc ?_ _ | refine Bel.drew ?_ | refine Bel.drewN ?_ _ | refine Bel.set ?_ ?_ _ | (simp; done) | (simp; omega))); have Y1 := Z1; obtain ⟨cc1_0, cc1_1, cc1_2, cc1_3, cc1_4, cc1_5, cf1, cl1⟩ := Y1); simp only [HB.out])
)
  all_goals (refine gen_ret6 Z1 fun wz d0 d1 d2 d3 d4 d5 hbz => ?_; exact bodyPost_ret (by simp [results, Tryd.results38, d0, d1, d2, d3, d4, d5, go_sem]; try rfl) rfl ⟨rfl, hbz _ (by repeat' (first | exact Bel.refl _ | with_reducible assumption | refine Bel.trans ?_ (by with_reducible assumption) | refine Bel.alloc ?_ _ | refine Bel.drew ?_ | refine Bel.drewN ?_ _ | refine Bel.set ?_ ?_ _ | (simp; done) | (simp; omega))) (by omega)⟩)

set_option maxHeartbeats 1000000 in
theorem implUn_neg_no (v : VVal) (w : World) (hv : v.Ok) (htab : P10 w) (hw : wellB v = true) (hb : tiB v = false) :
    Calls Tryd.prog 38 #[.int .i64 1, v.val] w fun e w' => e = .returned (.tuple #[.agg #[.int .i64 0, .int .i64 0, .int .i64 0, .string ByteArray.empty, .int .i64 0, .int .i64 0], .int .i64 101]) ∧ Bel w w' := by
  obtain ⟨k, n, i, t, lo, hi⟩ := v
  simp only [VVal.val]
  have HB := hide hb
  clear hb
  have HW := hide hw
  clear hw
  go_enter Tryd.func38, Tryd.ntmps38
  go_wp2_with (first
  | ((go_at_call 32; refine (implIsWellFormed_any ⟨k, n, i, t, lo, hi⟩ _ hv).mono ?_; rintro e w7 ⟨rfl, hb7⟩; have hz7 := hb7.size; (try simp only [World.size_alloc, World.size_setCell, World.size_drew] at hz7); have hk7_0 := hb7.box (w.heap.size) (by first | (simp; done) | (simp; omega) | omega); have hf7_0 := hb7.boxf (w.heap.size) (by first | (simp; done) | (simp; omega) | omega); have hl7_0 : w.heap.size < w7.heap.size := (by omega); have hn7_0 : ¬ w.heap.size = w7.heap.size := (by omega); (try simp only [VVal.val]); have Z7 := Z6.on Z6.new hb7; (try simp only [World.size_alloc] at Z7); have Y7 := Z7; obtain ⟨cc7_0, cc7_1, cc7_2, cc7_3, cc7_4, cc7_5, cf7, cl7⟩ := Y7); simp only [HW.out])
  | ((go_at_call 31; refine (implToInteger_any ⟨k, n, i, t, lo, hi⟩ _ hv (htab.on (by repeat' (first | exact Bel.refl _ | with_reducible assumption | refine Bel.trans ?_ (by with_reducible assumption) | refine Bel.alloc ?_ _ | refine Bel.drew ?_ | refine Bel.drewN ?_ _ | refine Bel.set ?_ ?_ _ | (simp; done) | (simp; omega) | omega)))).mono ?_; rintro e w1 ⟨rfl, hb1⟩; have hz1 := hb1.size; (try simp only [World.size_alloc, World.size_setCell, World.size_drew] at hz1); have hk1_0 := hb1.box (w.heap.size) (by first | (simp; done) | (simp; omega) | omega); have hf1_0 := hb1.boxf (w.heap.size) (by first | (simp; done) | (simp; omega) | omega); have hl1_0 : w.heap.size < w1.heap.size := (by omega); have hn1_0 : ¬ w.heap.size = w1.heap.size := (by omega); (try simp only [VVal.val]); have Z1 : Z6 w1 _ := Z6.on Z7 (by repeat' (first | exact Bel.refl _ | with_reducible assumption | refine Bel.trans ?_ (by with_reducible assumption) | refine Bel.alloc ?_ _ | refine Bel.drew ?_ | refine Bel.drewN ?_ _ | refine Bel.set ?_ ?_ _ | (simp; done) | (simp; omega))); have Y1 := Z1; obtain ⟨cc1_0, cc1_1, cc1_2, cc1_3, cc1_4, cc1_5, cf1, cl1⟩ := Y1); simp only [HB.out]))
  all_goals (refine gen_ret6 Z1 fun wz d0 d1 d2 d3 d4 d5 hbz => ?_; exact bodyPost_ret (by simp [results, Tryd.results38, d0, d1, d2, d3, d4, d5, go_sem]; try rfl) rfl ⟨rfl, hbz _ (by repeat' (first | exact Bel.refl _ | with_reducible assumption | refine Bel.trans ?_ (by with_reducible assumption) | refine Bel.alloc ?_ _ | refine Bel.drew ?_ | refine Bel.drewN ?_ _ | refine Bel.set ?_ ?_ _ | (simp; done) | (simp; omega))) (by omega)⟩)

set_option maxHeartbeats 1000000 in
theorem implUn_pos_yes (v : VVal) (w : World) (hv : v.Ok) (htab : P10 w) (hw : wellB v = true) (hb : tiB v = true) :
    Calls Tryd.prog 38 #[.int .i64 2, v.val] w fun e w' => e = .returned (.tuple #[.agg #[.int .i64 1, .int .i64 (tiN v), .int .i64 0, .string ByteArray.empty, .int .i64 0, .int .i64 0], .int .i64 0]) ∧ Bel w w' := by
  obtain ⟨k, n, i, t, lo, hi⟩ := v
  simp only [VVal.val]
  have HB := hide hb
  clear hb
  have HW := hide hw
  clear hw
  go_enter Tryd.func38, Tryd.ntmps38
  go_wp2_with (first
  | ((go_at_call 32; refine (implIsWellFormed_any ⟨k, n, i, t, lo, hi⟩ _ hv).mono ?_; rintro e w7 ⟨rfl, hb7⟩; have hz7 := hb7.size; (try simp only [World.size_alloc, World.size_setCell, World.size_drew] at hz7); have hk7_0 := hb7.box (w.heap.size) (by first | (simp; done) | (simp; omega) | omega); have hf7_0 := hb7.boxf (w.heap.size) (by first | (simp; done) | (simp; omega) | omega); have hl7_0 : w.heap.size < w7.heap.size := (by omega); have hn7_0 : ¬ w.heap.size = w7.heap.size := (by omega); (try simp only [VVal.val]); have Z7 := Z6.on Z6.new hb7; (try simp only [World.size_alloc] at Z7); have Y7 := Z7; obtain ⟨cc7_0, cc7_1, cc7_2, cc7_3, cc7_4, cc7_5, cf7, cl7⟩ := Y7); simp only [HW.out])
  | ((go_at_call 31; refine (implToInteger_any ⟨k, n, i, t, lo, hi⟩ _ hv (htab.on (by repeat' (first | exact Bel.refl _ | with_reducible assumption | refine Bel.trans ?_ (by with_reducible assumption) | refine Bel.alloc ?_ _ | refine Bel.drew ?_ | refine Bel.drewN ?_ _ | refine Bel.set ?_ ?_ _ | (simp; done) | (simp; omega) | omega)))).mono ?_; rintro e w1 ⟨rfl, hb1⟩; have hz1 := hb1.size; (try simp only [World.size_alloc, World.size_setCell, World.size_drew] at hz1); have hk1_0 := hb1.box (w.heap.size) (by first | (simp; done) | (simp; omega) | omega); have hf1_0 := hb1.boxf (w.heap.size) (by first | (simp; done) | (simp; omega) | omega); have hl1_0 : w.heap.size < w1.heap.size := (by omega); have hn1_0 : ¬ w.heap.size = w1.heap.size := (by omega); (try simp only [VVal.val]); have Z1 : Z6 w1 _ := Z6.on Z7 (by repeat' (first | exact Bel.refl _ | with_reducible assumption | refine Bel.trans ?_ (by with_reducible assumption) | refine Bel.alloc ?_ _ | refine Bel.drew ?_ | refine Bel.drewN ?_ _ | refine Bel.set ?_ ?_ _ | (simp; done) | (simp; omega))); have Y1 := Z1; obtain ⟨cc1_0, cc1_1, cc1_2, cc1_3, cc1_4, cc1_5, cf1, cl1⟩ := Y1); simp only [HB.out])
)
  all_goals (refine gen_ret6 Z1 fun wz d0 d1 d2 d3 d4 d5 hbz => ?_; exact bodyPost_ret (by simp [results, Tryd.results38, d0, d1, d2, d3, d4, d5, go_sem]; try rfl) rfl ⟨rfl, hbz _ (by repeat' (first | exact Bel.refl _ | with_reducible assumption | refine Bel.trans ?_ (by with_reducible assumption) | refine Bel.alloc ?_ _ | refine Bel.drew ?_ | refine Bel.drewN ?_ _ | refine Bel.set ?_ ?_ _ | (simp; done) | (simp; omega))) (by omega)⟩)

set_option maxHeartbeats 1000000 in
theorem implUn_pos_no (v : VVal) (w : World) (hv : v.Ok) (htab : P10 w) (hw : wellB v = true) (hb : tiB v = false) :
    Calls Tryd.prog 38 #[.int .i64 2, v.val] w fun e w' => e = .returned (.tuple #[.agg #[.int .i64 0, .int .i64 0, .int .i64 0, .string ByteArray.empty, .int .i64 0, .int .i64 0], .int .i64 101]) ∧ Bel w w' := by
  obtain ⟨k, n, i, t, lo, hi⟩ := v
  simp only [VVal.val]
  have HB := hide hb
  clear hb
  have HW := hide hw
  clear hw
  go_enter Tryd.func38, Tryd.ntmps38
  go_wp2_with (first
  | ((go_at_call 32; refine (implIsWellFormed_any ⟨k, n, i, t, lo, hi⟩ _ hv).mono ?_; rintro e w7 ⟨rfl, hb7⟩; have hz7 := hb7.size; (try simp only [World.size_alloc, World.size_setCell, World.size_drew] at hz7); have hk7_0 := hb7.box (w.heap.size) (by first | (simp; done) | (simp; omega) | omega); have hf7_0 := hb7.boxf (w.heap.size) (by first | (simp; done) | (simp; omega) | omega); have hl7_0 : w.heap.size < w7.heap.size := (by omega); have hn7_0 : ¬ w.heap.size = w7.heap.size := (by omega); (try simp only [VVal.val]); have Z7 := Z6.on Z6.new hb7; (try simp only [World.size_alloc] at Z7); have Y7 := Z7; obtain ⟨cc7_0, cc7_1, cc7_2, cc7_3, cc7_4, cc7_5, cf7, cl7⟩ := Y7); simp only [HW.out])
  | ((go_at_call 31; refine (implToInteger_any ⟨k, n, i, t, lo, hi⟩ _ hv (htab.on (by repeat' (first | exact Bel.refl _ | with_reducible assumption | refine Bel.trans ?_ (by with_reducible assumption) | refine Bel.alloc ?_ _ | refine Bel.drew ?_ | refine Bel.drewN ?_ _ | refine Bel.set ?_ ?_ _ | (simp; done) | (simp; omega) | omega)))).mono ?_; rintro e w1 ⟨rfl, hb1⟩; have hz1 := hb1.size; (try simp only [World.size_alloc, World.size_setCell, World.size_drew] at hz1); have hk1_0 := hb1.box (w.heap.size) (by first | (simp; done) | (simp; omega) | omega); have hf1_0 := hb1.boxf (w.heap.size) (by first | (simp; done) | (simp; omega) | omega); have hl1_0 : w.heap.size < w1.heap.size := (by omega); have hn1_0 : ¬ w.heap.size = w1.heap.size := (by omega); (try simp only [VVal.val]); have Z1 : Z6 w1 _ := Z6.on Z7 (by repeat' (first | exact Bel.refl _ | with_reducible assumption | refine Bel.trans ?_ (by with_reducible assumption) | refine Bel.alloc ?_ _ | refine Bel.drew ?_ | refine Bel.drewN ?_ _ | refine Bel.set ?_ ?_ _ | (simp; done) | (simp; omega))); have Y1 := Z1; obtain ⟨cc1_0, cc1_1, cc1_2, cc1_3, cc1_4, cc1_5, cf1, cl1⟩ := Y1); simp only [HB.out]))
  all_goals (refine gen_ret6 Z1 fun wz d0 d1 d2 d3 d4 d5 hbz => ?_; exact bodyPost_ret (by simp [results, Tryd.results38, d0, d1, d2, d3, d4, d5, go_sem]; try rfl) rfl ⟨rfl, hbz _ (by repeat' (first | exact Bel.refl _ | with_reducible assumption | refine Bel.trans ?_ (by with_reducible assumption) | refine Bel.alloc ?_ _ | refine Bel.drew ?_ | refine Bel.drewN ?_ _ | refine Bel.set ?_ ?_ _ | (simp; done) | (simp; omega))) (by omega)⟩)

theorem specUn_any (op : Int) (v : VVal) (w : World) (hv : v.Ok) (ho : op = 1 ∨ op = 2 ∨ op = 6) :
    Calls Tryd.prog 62 #[.int .i64 op, v.val] w fun e w' => e = .returned (.tuple #[(unV op v).val, .int .i64 (unC op v)]) ∧ Bel w w' := by
  rcases ho with rfl | rfl | rfl
  · cases hb : tiB v
    · rw [show unV 1 v = VVal.zero by simp [unV, hb], show unC 1 v = 101 by simp [unC, hb]]; exact specUn_neg_no v w hv hb
    · rw [show unV 1 v = VVal.ofInt (wrap64 (-tiN v)) by simp [unV, hb], show unC 1 v = 0 by simp [unC, hb]]; exact specUn_neg_yes v w hv hb
  · cases hb : tiB v
    · rw [show unV 2 v = VVal.zero by simp [unV, hb], show unC 2 v = 101 by simp [unC, hb]]; exact specUn_pos_no v w hv hb
    · rw [show unV 2 v = VVal.ofInt (tiN v) by simp [unV, hb], show unC 2 v = 0 by simp [unC, hb]]; exact specUn_pos_yes v w hv hb
  · cases hb : tcB v
    · rw [show unV 6 v = VVal.zero by simp [unV, hb], show unC 6 v = 104 by simp [unC, hb]]; exact specUn_set_no v w hv hb
    · rw [show unV 6 v = VVal.ofSet (cmpl (tcLo v)) (cmpl (tcHi v)) by simp [unV, hb], show unC 6 v = 0 by simp [unC, hb]]; exact specUn_set_yes v w hv hb

theorem implUn_any (op : Int) (v : VVal) (w : World) (hv : v.Ok) (htab : P10 w) (hw : wellB v = true) (ho : op = 1 ∨ op = 2 ∨ op = 6) :
    Calls Tryd.prog 38 #[.int .i64 op, v.val] w fun e w' => e = .returned (.tuple #[(unV op v).val, .int .i64 (unC op v)]) ∧ Bel w w' := by
  rcases ho with rfl | rfl | rfl
  · cases hb : tiB v
    · rw [show unV 1 v = VVal.zero by simp [unV, hb], show unC 1 v = 101 by simp [unC, hb]]; exact implUn_neg_no v w hv htab hw hb
    · rw [show unV 1 v = VVal.ofInt (wrap64 (-tiN v)) by simp [unV, hb], show unC 1 v = 0 by simp [unC, hb]]; exact implUn_neg_yes v w hv htab hw hb
  · cases hb : tiB v
    · rw [show unV 2 v = VVal.zero by simp [unV, hb], show unC 2 v = 101 by simp [unC, hb]]; exact implUn_pos_no v w hv htab hw hb
    · rw [show unV 2 v = VVal.ofInt (tiN v) by simp [unV, hb], show unC 2 v = 0 by simp [unC, hb]]; exact implUn_pos_yes v w hv htab hw hb
  · cases hb : tcB v
    · rw [show unV 6 v = VVal.zero by simp [unV, hb], show unC 6 v = 104 by simp [unC, hb]]; exact implUn_set_no v w hv htab hw hb
    · rw [show unV 6 v = VVal.ofSet (cmpl (tcLo v)) (cmpl (tcHi v)) by simp [unV, hb], show unC 6 v = 0 by simp [unC, hb]]; exact implUn_set_yes v w hv htab hw hb

set_option maxHeartbeats 1000000 in
theorem specUna_op (v : VVal) (w : World) (hv : v.Ok) (op : Int) (h1 : ¬ op = 1) (h2 : ¬ op = 2) (h6 : ¬ op = 6) :
    Calls Tryd.prog 37 #[.int .i64 op, v.val] w fun e w' => e = .returned (.tuple #[.agg #[.int .i64 0, .int .i64 0, .int .i64 0, .string ByteArray.empty, .int .i64 0, .int .i64 0], .int .i64 205]) ∧ Bel w w' := by
  obtain ⟨k, n, i, t, lo, hi⟩ := v
  simp only [VVal.val]
  have e1 : (op != 1) = true := by simp [h1]
  have e2 : (op != 2) = true := by simp [h2]
  have e6 : (op != 6) = true := by simp [h6]
  go_enter Tryd.func37, Tryd.ntmps37
  go_wp2_with (fail)
  all_goals
    go_returns
    exact ⟨rfl, (by repeat' (first | exact Bel.refl _ | with_reducible assumption | refine Bel.trans ?_ (by with_reducible assumption) | refine Bel.alloc ?_ _ | refine Bel.drew ?_ | refine Bel.drewN ?_ _ | refine Bel.set ?_ ?_ _ | (simp; done) | (simp; omega)))⟩

set_option maxHeartbeats 1000000 in
theorem specUna_1 (v : VVal) (w : World) (hv : v.Ok) (hw : wellB v = false) :
    Calls Tryd.prog 37 #[.int .i64 1, v.val] w fun e w' => e = .returned (.tuple #[.agg #[.int .i64 0, .int .i64 0, .int .i64 0, .string ByteArray.empty, .int .i64 0, .int .i64 0], .int .i64 205]) ∧ Bel w w' := by
  obtain ⟨k, n, i, t, lo, hi⟩ := v
  simp only [VVal.val]
  have HW := hide hw
  clear hw
  go_enter Tryd.func37, Tryd.ntmps37
  go_wp2_with ((go_at_call 41; refine (specIsWellFormed_any ⟨k, n, i, t, lo, hi⟩ _ hv).mono ?_; rintro e w7 ⟨rfl, hb7⟩; have hz7 := hb7.size; (try simp only [World.size_alloc, World.size_setCell, World.size_drew] at hz7); have hk7_0 := hb7.box (w.heap.size) (by first | (simp; done) | (simp; omega) | omega); have hf7_0 := hb7.boxf (w.heap.size) (by first | (simp; done) | (simp; omega) | omega); have hl7_0 : w.heap.size < w7.heap.size := (by omega); have hn7_0 : ¬ w.heap.size = w7.heap.size := (by omega); (try simp only [VVal.val]); have Z7 := Z6.on Z6.new hb7; (try simp only [World.size_alloc] at Z7); have Y7 := Z7; obtain ⟨cc7_0, cc7_1, cc7_2, cc7_3, cc7_4, cc7_5, cf7, cl7⟩ := Y7); simp only [HW.out])
  all_goals (refine gen_ret6 Z7 fun wz d0 d1 d2 d3 d4 d5 hbz => ?_; exact bodyPost_ret (by simp [results, Tryd.results37, d0, d1, d2, d3, d4, d5, go_sem]; try rfl) rfl ⟨rfl, hbz _ (by repeat' (first | exact Bel.refl _ | with_reducible assumption | refine Bel.trans ?_ (by with_reducible assumption) | refine Bel.alloc ?_ _ | refine Bel.drew ?_ | refine Bel.drewN ?_ _ | refine Bel.set ?_ ?_ _ | (simp; done) | (simp; omega))) (by omega)⟩)

set_option maxHeartbeats 1000000 in
theorem specUna_2 (v : VVal) (w : World) (hv : v.Ok) (hw : wellB v = false) :
    Calls Tryd.prog 37 #[.int .i64 2, v.val] w fun e w' => e = .returned (.tuple #[.agg #[.int .i64 0, .int .i64 0, .int .i64 0, .string ByteArray.empty, .int .i64 0, .int .i64 0], .int .i64 205]) ∧ Bel w w' := by
  obtain ⟨k, n, i, t, lo, hi⟩ := v
  simp only [VVal.val]
  have HW := hide hw
  clear hw
  go_enter Tryd.func37, Tryd.ntmps37
  go_wp2_with ((go_at_call 41; refine (specIsWellFormed_any ⟨k, n, i, t, lo, hi⟩ _ hv).mono ?_; rintro e w7 ⟨rfl, hb7⟩; have hz7 := hb7.size; (try simp only [World.size_alloc, World.size_setCell, World.size_drew] at hz7); have hk7_0 := hb7.box (w.heap.size) (by first | (simp; done) | (simp; omega) | omega); have hf7_0 := hb7.boxf (w.heap.size) (by first | (simp; done) | (simp; omega) | omega); have hl7_0 : w.heap.size < w7.heap.size := (by omega); have hn7_0 : ¬ w.heap.size = w7.heap.size := (by omega); (try simp only [VVal.val]); have Z7 := Z6.on Z6.new hb7; (try simp only [World.size_alloc] at Z7); have Y7 := Z7; obtain ⟨cc7_0, cc7_1, cc7_2, cc7_3, cc7_4, cc7_5, cf7, cl7⟩ := Y7); simp only [HW.out])
  all_goals (refine gen_ret6 Z7 fun wz d0 d1 d2 d3 d4 d5 hbz => ?_; exact bodyPost_ret (by simp [results, Tryd.results37, d0, d1, d2, d3, d4, d5, go_sem]; try rfl) rfl ⟨rfl, hbz _ (by repeat' (first | exact Bel.refl _ | with_reducible assumption | refine Bel.trans ?_ (by with_reducible assumption) | refine Bel.alloc ?_ _ | refine Bel.drew ?_ | refine Bel.drewN ?_ _ | refine Bel.set ?_ ?_ _ | (simp; done) | (simp; omega))) (by omega)⟩)

set_option maxHeartbeats 1000000 in
theorem specUna_6 (v : VVal) (w : World) (hv : v.Ok) (hw : wellB v = false) :
    Calls Tryd.prog 37 #[.int .i64 6, v.val] w fun e w' => e = .returned (.tuple #[.agg #[.int .i64 0, .int .i64 0, .int .i64 0, .string ByteArray.empty, .int .i64 0, .int .i64 0], .int .i64 205]) ∧ Bel w w' := by
  obtain ⟨k, n, i, t, lo, hi⟩ := v
  simp only [VVal.val]
  have HW := hide hw
  clear hw
  go_enter Tryd.func37, Tryd.ntmps37
  go_wp2_with ((go_at_call 41; refine (specIsWellFormed_any ⟨k, n, i, t, lo, hi⟩ _ hv).mono ?_; rintro e w7 ⟨rfl, hb7⟩; have hz7 := hb7.size; (try simp only [World.size_alloc, World.size_setCell, World.size_drew] at hz7); have hk7_0 := hb7.box (w.heap.size) (by first | (simp; done) | (simp; omega) | omega); have hf7_0 := hb7.boxf (w.heap.size) (by first | (simp; done) | (simp; omega) | omega); have hl7_0 : w.heap.size < w7.heap.size := (by omega); have hn7_0 : ¬ w.heap.size = w7.heap.size := (by omega); (try simp only [VVal.val]); have Z7 := Z6.on Z6.new hb7; (try simp only [World.size_alloc] at Z7); have Y7 := Z7; obtain ⟨cc7_0, cc7_1, cc7_2, cc7_3, cc7_4, cc7_5, cf7, cl7⟩ := Y7); simp only [HW.out])
  all_goals (refine gen_ret6 Z7 fun wz d0 d1 d2 d3 d4 d5 hbz => ?_; exact bodyPost_ret (by simp [results, Tryd.results37, d0, d1, d2, d3, d4, d5, go_sem]; try rfl) rfl ⟨rfl, hbz _ (by repeat' (first | exact Bel.refl _ | with_reducible assumption | refine Bel.trans ?_ (by with_reducible assumption) | refine Bel.alloc ?_ _ | refine Bel.drew ?_ | refine Bel.drewN ?_ _ | refine Bel.set ?_ ?_ _ | (simp; done) | (simp; omega))) (by omega)⟩)

set_option maxHeartbeats 1000000 in
theorem implUna_op (v : VVal) (w : World) (hv : v.Ok) (htab : P10 w) (op : Int) (h1 : ¬ op = 1) (h2 : ¬ op = 2) (h6 : ¬ op = 6) :
    Calls Tryd.prog 38 #[.int .i64 op, v.val] w fun e w' => e = .returned (.tuple #[.agg #[.int .i64 0, .int .i64 0, .int .i64 0, .string ByteArray.empty, .int .i64 0, .int .i64 0], .int .i64 205]) ∧ Bel w w' := by
  obtain ⟨k, n, i, t, lo, hi⟩ := v
  simp only [VVal.val]
  have e1 : (op != 1) = true := by simp [h1]
  have e2 : (op != 2) = true := by simp [h2]
  have e6 : (op != 6) = true := by simp [h6]
  go_enter Tryd.func38, Tryd.ntmps38
  go_wp2_with (fail)
  all_goals
    go_returns
    exact ⟨rfl, (by repeat' (first | exact Bel.refl _ | with_reducible assumption | refine Bel.trans ?_ (by with_reducible assumption) | refine Bel.alloc ?_ _ | refine Bel.drew ?_ | refine Bel.drewN ?_ _ | refine Bel.set ?_ ?_ _ | (simp; done) | (simp; omega)))⟩

set_option maxHeartbeats 1000000 in
theorem implUna_1 (v : VVal) (w : World) (hv : v.Ok) (htab : P10 w) (hw : wellB v = false) :
    Calls Tryd.prog 38 #[.int .i64 1, v.val] w fun e w' => e = .returned (.tuple #[.agg #[.int .i64 0, .int .i64 0, .int .i64 0, .string ByteArray.empty, .int .i64 0, .int .i64 0], .int .i64 205]) ∧ Bel w w' := by
  obtain ⟨k, n, i, t, lo, hi⟩ := v
  simp only [VVal.val]
  have HW := hide hw
  clear hw
  go_enter Tryd.func38, Tryd.ntmps38
  go_wp2_with ((go_at_call 32; refine (implIsWellFormed_any ⟨k, n, i, t, lo, hi⟩ _ hv).mono ?_; rintro e w7 ⟨rfl, hb7⟩; have hz7 := hb7.size; (try simp only [World.size_alloc, World.size_setCell, World.size_drew] at hz7); have hk7_0 := hb7.box (w.heap.size) (by first | (simp; done) | (simp; omega) | omega); have hf7_0 := hb7.boxf (w.heap.size) (by first | (simp; done) | (simp; omega) | omega); have hl7_0 : w.heap.size < w7.heap.size := (by omega); have hn7_0 : ¬ w.heap.size = w7.heap.size := (by omega); (try simp only [VVal.val]); have Z7 := Z6.on Z6.new hb7; (try simp only [World.size_alloc] at Z7); have Y7 := Z7; obtain ⟨cc7_0, cc7_1, cc7_2, cc7_3, cc7_4, cc7_5, cf7, cl7⟩ := Y7); simp only [HW.out])
  all_goals (refine gen_ret6 Z7 fun wz d0 d1 d2 d3 d4 d5 hbz => ?_; exact bodyPost_ret (by simp [results, Tryd.results38, d0, d1, d2, d3, d4, d5, go_sem]; try rfl) rfl ⟨rfl, hbz _ (by repeat' (first | exact Bel.refl _ | with_reducible assumption | refine Bel.trans ?_ (by with_reducible assumption) | refine Bel.alloc ?_ _ | refine Bel.drew ?_ | refine Bel.drewN ?_ _ | refine Bel.set ?_ ?_ _ | (simp; done) | (simp; omega))) (by omega)⟩)

set_option maxHeartbeats 1000000 in
theorem implUna_2 (v : VVal) (w : World) (hv : v.Ok) (htab : P10 w) (hw : wellB v = false) :
    Calls Tryd.prog 38 #[.int .i64 2, v.val] w fun e w' => e = .returned (.tuple #[.agg #[.int .i64 0, .int .i64 0, .int .i64 0, .string ByteArray.empty, .int .i64 0, .int .i64 0], .int .i64 205]) ∧ Bel w w' := by
  obtain ⟨k, n, i, t, lo, hi⟩ := v
  simp only [VVal.val]
  have HW := hide hw
  clear hw
  go_enter Tryd.func38, Tryd.ntmps38
  go_wp2_with ((go_at_call 32; refine (implIsWellFormed_any ⟨k, n, i, t, lo, hi⟩ _ hv).mono ?_; rintro e w7 ⟨rfl, hb7⟩; have hz7 := hb7.size; (try simp only [World.size_alloc, World.size_setCell, World.size_drew] at hz7); have hk7_0 := hb7.box (w.heap.size) (by first | (simp; done) | (simp; omega) | omega); have hf7_0 := hb7.boxf (w.heap.size) (by first | (simp; done) | (simp; omega) | omega); have hl7_0 : w.heap.size < w7.heap.size := (by omega); have hn7_0 : ¬ w.heap.size = w7.heap.size := (by omega); (try simp only [VVal.val]); have Z7 := Z6.on Z6.new hb7; (try simp only [World.size_alloc] at Z7); have Y7 := Z7; obtain ⟨cc7_0, cc7_1, cc7_2, cc7_3, cc7_4, cc7_5, cf7, cl7⟩ := Y7); simp only [HW.out])
  all_goals (refine gen_ret6 Z7 fun wz d0 d1 d2 d3 d4 d5 hbz => ?_; exact bodyPost_ret (by simp [results, Tryd.results38, d0, d1, d2, d3, d4, d5, go_sem]; try rfl) rfl ⟨rfl, hbz _ (by repeat' (first | exact Bel.refl _ | with_reducible assumption | refine Bel.trans ?_ (by with_reducible assumption) | refine Bel.alloc ?_ _ | refine Bel.drew ?_ | refine Bel.drewN ?_ _ | refine Bel.set ?_ ?_ _ | (simp; done) | (simp; omega))) (by omega)⟩)

set_option maxHeartbeats 1000000 in
theorem implUna_6 (v : VVal) (w : World) (hv : v.Ok) (htab : P10 w) (hw : wellB v = false) :
    Calls Tryd.prog 38 #[.int .i64 6, v.val] w fun e w' => e = .returned (.tuple #[.agg #[.int .i64 0, .int .i64 0, .int .i64 0, .string ByteArray.empty, .int .i64 0, .int .i64 0], .int .i64 205]) ∧ Bel w w' := by
  obtain ⟨k, n, i, t, lo, hi⟩ := v
  simp only [VVal.val]
  have HW := hide hw
  clear hw
  go_enter Tryd.func38, Tryd.ntmps38
  go_wp2_with ((go_at_call 32; refine (implIsWellFormed_any ⟨k, n, i, t, lo, hi⟩ _ hv).mono ?_; rintro e w7 ⟨rfl, hb7⟩; have hz7 := hb7.size; (try simp only [World.size_alloc, World.size_setCell, World.size_drew] at hz7); have hk7_0 := hb7.box (w.heap.size) (by first | (simp; done) | (simp; omega) | omega); have hf7_0 := hb7.boxf (w.heap.size) (by first | (simp; done) | (simp; omega) | omega); have hl7_0 : w.heap.size < w7.heap.size := (by omega); have hn7_0 : ¬ w.heap.size = w7.heap.size := (by omega); (try simp only [VVal.val]); have Z7 := Z6.on Z6.new hb7; (try simp only [World.size_alloc] at Z7); have Y7 := Z7; obtain ⟨cc7_0, cc7_1, cc7_2, cc7_3, cc7_4, cc7_5, cf7, cl7⟩ := Y7); simp only [HW.out])
  all_goals (refine gen_ret6 Z7 fun wz d0 d1 d2 d3 d4 d5 hbz => ?_; exact bodyPost_ret (by simp [results, Tryd.results38, d0, d1, d2, d3, d4, d5, go_sem]; try rfl) rfl ⟨rfl, hbz _ (by repeat' (first | exact Bel.refl _ | with_reducible assumption | refine Bel.trans ?_ (by with_reducible assumption) | refine Bel.alloc ?_ _ | refine Bel.drew ?_ | refine Bel.drewN ?_ _ | refine Bel.set ?_ ?_ _ | (simp; done) | (simp; omega))) (by omega)⟩)

set_option maxHeartbeats 1000000 in
theorem specUna_yes1 (v : VVal) (w : World) (hv : v.Ok) (hw : wellB v = true) :
    Calls Tryd.prog 37 #[.int .i64 1, v.val] w fun e w' => e = .returned (.tuple #[(unV 1 v).val, .int .i64 (unC 1 v)]) ∧ Bel w w' := by
  obtain ⟨k, n, i, t, lo, hi⟩ := v
  simp only [VVal.val]
  have HW := hide hw
  clear hw
  have HU := hide (fun w => specUn_any 1 ⟨k, n, i, t, lo, hi⟩ w hv (by decide))
  generalize unV 1 ⟨k, n, i, t, lo, hi⟩ = U at HU ⊢
  generalize unC 1 ⟨k, n, i, t, lo, hi⟩ = C at HU ⊢
  obtain ⟨uk, un, ui, ut, ulo, uhi⟩ := U
  go_enter Tryd.func37, Tryd.ntmps37
  go_wp2_with (first
  | ((go_at_call 41; refine (specIsWellFormed_any ⟨k, n, i, t, lo, hi⟩ _ hv).mono ?_; rintro e w7 ⟨rfl, hb7⟩; have hz7 := hb7.size; (try simp only [World.size_alloc, World.size_setCell, World.size_drew] at hz7); have hk7_0 := hb7.box (w.heap.size) (by first | (simp; done) | (simp; omega) | omega); have hf7_0 := hb7.boxf (w.heap.size) (by first | (simp; done) | (simp; omega) | omega); have hl7_0 : w.heap.size < w7.heap.size := (by omega); have hn7_0 : ¬ w.heap.size = w7.heap.size := (by omega); (try simp only [VVal.val]); have Z7 := Z6.on Z6.new hb7; (try simp only [World.size_alloc] at Z7); have Y7 := Z7; obtain ⟨cc7_0, cc7_1, cc7_2, cc7_3, cc7_4, cc7_5, cf7, cl7⟩ := Y7); simp only [HW.out])
  | (go_at_call 62; refine (HU.out _).mono ?_; rintro e w1 ⟨rfl, hb1⟩; have hz1 := hb1.size; (try simp only [World.size_alloc, World.size_setCell, World.size_drew] at hz1); have hk1_0 := hb1.box (w.heap.size) (by first | (simp; done) | (simp; omega) | omega); have hf1_0 := hb1.boxf (w.heap.size) (by first | (simp; done) | (simp; omega) | omega); have hl1_0 : w.heap.size < w1.heap.size := (by omega); have hn1_0 : ¬ w.heap.size = w1.heap.size := (by omega); (try simp only [VVal.val]); have Z1 : Z6 w1 _ := Z6.on Z7 (by repeat' (first | exact Bel.refl _ | with_reducible assumption | refine Bel.trans ?_ (by with_reducible assumption) | refine Bel.alloc ?_ _ | refine Bel.drew ?_ | refine Bel.drewN ?_ _ | refine Bel.set ?_ ?_ _ | (simp; done) | (simp; omega))); have Y1 := Z1; obtain ⟨cc1_0, cc1_1, cc1_2, cc1_3, cc1_4, cc1_5, cf1, cl1⟩ := Y1))
  all_goals (refine gen_ret6 Z1 fun wz d0 d1 d2 d3 d4 d5 hbz => ?_; exact bodyPost_ret (by simp [results, Tryd.results37, d0, d1, d2, d3, d4, d5, go_sem]; try rfl) rfl ⟨rfl, hbz _ (by repeat' (first | exact Bel.refl _ | with_reducible assumption | refine Bel.trans ?_ (by with_reducible assumption) | refine Bel.alloc ?_ _ | refine Bel.drew ?_ | refine Bel.drewN ?_ _ | refine Bel.set ?_ ?_ _ | (simp; done) | (simp; omega))) (by omega)⟩)

set_option maxHeartbeats 1000000 in
theorem specUna_yes2 (v : VVal) (w : World) (hv : v.Ok) (hw : wellB v = true) :
    Calls Tryd.prog 37 #[.int .i64 2, v.val] w fun e w' => e = .returned (.tuple #[(unV 2 v).val, .int .i64 (unC 2 v)]) ∧ Bel w w' := by
  obtain ⟨k, n, i, t, lo, hi⟩ := v
  simp only [VVal.val]
  have HW := hide hw
  clear hw
  have HU := hide (fun w => specUn_any 2 ⟨k, n, i, t, lo, hi⟩ w hv (by decide))
  generalize unV 2 ⟨k, n, i, t, lo, hi⟩ = U at HU ⊢
  generalize unC 2 ⟨k, n, i, t, lo, hi⟩ = C at HU ⊢
  obtain ⟨uk, un, ui, ut, ulo, uhi⟩ := U
  go_enter Tryd.func37, Tryd.ntmps37
  go_wp2_with (first
  | ((go_at_call 41; refine (specIsWellFormed_any ⟨k, n, i, t, lo, hi⟩ _ hv).mono ?_; rintro e w7 ⟨rfl, hb7⟩; have hz7 := hb7.size; (try simp only [World.size_alloc, World.size_setCell, World.size_drew] at hz7); have hk7_0 := hb7.box (w.heap.size) (by first | (simp; done) | (simp; omega) | omega); have hf7_0 := hb7.boxf (w.heap.size) (by first | (simp; done) | (simp; omega) | omega); have hl7_0 : w.heap.size < w7.heap.size := (by omega); have hn7_0 : ¬ w.heap.size = w7.heap.size := (by omega); (try simp only [VVal.val]); have Z7 := Z6.on Z6.new hb7; (try simp only [World.size_alloc] at Z7); have Y7 := Z7; obtain ⟨cc7_0, cc7_1, cc7_2, cc7_3, cc7_4, cc7_5, cf7, cl7⟩ := Y7); simp only [HW.out])
  | (go_at_call 62; refine (HU.out _).mono ?_; rintro e w1 ⟨rfl, hb1⟩; have hz1 := hb1.size; (try simp only [World.size_alloc, World.size_setCell, World.size_drew] at hz1); have hk1_0 := hb1.box (w.heap.size) (by first | (simp; done) | (simp; omega) | omega); have hf1_0 := hb1.boxf (w.heap.size) (by first | (simp; done) | (simp; omega) | omega); have hl1_0 : w.heap.size < w1.heap.size := (by omega); have hn1_0 : ¬ w.heap.size = w1.heap.size := (by omega); (try simp only [VVal.val]); have Z1 : Z6 w1 _ := Z6.on Z7 (by repeat' (first | exact Bel.refl _ | with_reducible assumption | refine Bel.trans ?_ (by with_reducible assumption) | refine Bel.alloc ?_ _ | refine Bel.drew ?_ | refine Bel.drewN ?_ _ | refine Bel.set ?_ ?_ _ | (simp; done) | (simp; omega))); have Y1 := Z1; obtain ⟨cc1_0, cc1_1, cc1_2, cc1_3, cc1_4, cc1_5, cf1, cl1⟩ := Y1))
  all_goals (refine gen_ret6 Z1 fun wz d0 d1 d2 d3 d4 d5 hbz => ?_; exact bodyPost_ret (by simp [results, Tryd.results37, d0, d1, d2, d3, d4, d5, go_sem]; try rfl) rfl ⟨rfl, hbz _ (by repeat' (first | exact Bel.refl _ | with_reducible assumption | refine Bel.trans ?_ (by with_reducible assumption) | refine Bel.alloc ?_ _ | refine Bel.drew ?_ | refine Bel.drewN ?_ _ | refine Bel.set ?_ ?_ _ | (simp; done) | (simp; omega))) (by omega)⟩)

set_option maxHeartbeats 1000000 in
theorem specUna_yes6 (v : VVal) (w : World) (hv : v.Ok) (hw : wellB v = true) :
    Calls Tryd.prog 37 #[.int .i64 6, v.val] w fun e w' => e = .returned (.tuple #[(unV 6 v).val, .int .i64 (unC 6 v)]) ∧ Bel w w' := by
  obtain ⟨k, n, i, t, lo, hi⟩ := v
  simp only [VVal.val]
  have HW := hide hw
  clear hw
  have HU := hide (fun w => specUn_any 6 ⟨k, n, i, t, lo, hi⟩ w hv (by decide))
  generalize unV 6 ⟨k, n, i, t, lo, hi⟩ = U at HU ⊢
  generalize unC 6 ⟨k, n, i, t, lo, hi⟩ = C at HU ⊢
  obtain ⟨uk, un, ui, ut, ulo, uhi⟩ := U
  go_enter Tryd.func37, Tryd.ntmps37
  go_wp2_with (first
  | ((go_at_call 41; refine (specIsWellFormed_any ⟨k, n, i, t, lo, hi⟩ _ hv).mono ?_; rintro e w7 ⟨rfl, hb7⟩; have hz7 := hb7.size; (try simp only [World.size_alloc, World.size_setCell, World.size_drew] at hz7); have hk7_0 := hb7.box (w.heap.size) (by first | (simp; done) | (simp; omega) | omega); have hf7_0 := hb7.boxf (w.heap.size) (by first | (simp; done) | (simp; omega) | omega); have hl7_0 : w.heap.size < w7.heap.size := (by omega); have hn7_0 : ¬ w.heap.size = w7.heap.size := (by omega); (try simp only [VVal.val]); have Z7 := Z6.on Z6.new hb7; (try simp only [World.size_alloc] at Z7); have Y7 := Z7; obtain ⟨cc7_0, cc7_1, cc7_2, cc7_3, cc7_4, cc7_5, cf7, cl7⟩ := Y7); simp only [HW.out])
  | (go_at_call 62; refine (HU.out _).mono ?_; rintro e w1 ⟨rfl, hb1⟩; have hz1 := hb1.size; (try simp only [World.size_alloc, World.size_setCell, World.size_drew] at hz1); have hk1_0 := hb1.box (w.heap.size) (by first | (simp; done) | (simp; omega) | omega); have hf1_0 := hb1.boxf (w.heap.size) (by first | (simp; done) | (simp; omega) | omega); have hl1_0 : w.heap.size < w1.heap.size := (by omega); have hn1_0 : ¬ w.heap.size = w1.heap.size := (by omega); (try simp only [VVal.val]); have Z1 : Z6 w1 _ := Z6.on Z7 (by repeat' (first | exact Bel.refl _ | with_reducible assumption | refine Bel.trans ?_ (by with_reducible assumption) | refine Bel.alloc ?_ _ | refine Bel.drew ?_ | refine Bel.drewN ?_ _ | refine Bel.set ?_ ?_ _ | (simp; done) | (simp; omega))); have Y1 := Z1; obtain ⟨cc1_0, cc1_1, cc1_2, cc1_3, cc1_4, cc1_5, cf1, cl1⟩ := Y1))
  all_goals (refine gen_ret6 Z1 fun wz d0 d1 d2 d3 d4 d5 hbz => ?_; exact bodyPost_ret (by simp [results, Tryd.results37, d0, d1, d2, d3, d4, d5, go_sem]; try rfl) rfl ⟨rfl, hbz _ (by repeat' (first | exact Bel.refl _ | with_reducible assumption | refine Bel.trans ?_ (by with_reducible assumption) | refine Bel.alloc ?_ _ | refine Bel.drew ?_ | refine Bel.drewN ?_ _ | refine Bel.set ?_ ?_ _ | (simp; done) | (simp; omega))) (by omega)⟩)

theorem specUnaryValue_any (op : Int) (v : VVal) (w : World) (hv : v.Ok) :
    Calls Tryd.prog 37 #[.int .i64 op, v.val] w fun e w' => e = .returned (.tuple #[(unaV op v).val, .int .i64 (unaC op v)]) ∧ Bel w w' := by
  by_cases ho : op = 1 ∨ op = 2 ∨ op = 6
  · cases hw : wellB v
    · rw [show unaV op v = VVal.zero by simp [unaV, uBad, hw], show unaC op v = 205 by simp [unaC, uBad, hw]]
      rcases ho with rfl | rfl | rfl
      · exact specUna_1 v w hv hw
      · exact specUna_2 v w hv hw
      · exact specUna_6 v w hv hw
    · rw [show unaV op v = unV op v by rcases ho with rfl | rfl | rfl <;> simp [unaV, uBad, hw], show unaC op v = unC op v by rcases ho with rfl | rfl | rfl <;> simp [unaC, uBad, hw]]
      rcases ho with rfl | rfl | rfl
      all_goals first | exact specUna_yes1 v w hv hw | exact specUna_yes2 v w hv hw | exact specUna_yes6 v w hv hw
  · rw [show unaV op v = VVal.zero by simp only [unaV, uBad]; simp; intro a; omega, show unaC op v = 205 by simp only [unaC, uBad]; simp; intro a; omega]
    exact specUna_op v w hv op (by omega) (by omega) (by omega)

theorem implUnaryValue_any (op : Int) (v : VVal) (w : World) (hv : v.Ok) (htab : P10 w) :
    Calls Tryd.prog 38 #[.int .i64 op, v.val] w fun e w' => e = .returned (.tuple #[(unaV op v).val, .int .i64 (unaC op v)]) ∧ Bel w w' := by
  by_cases ho : op = 1 ∨ op = 2 ∨ op = 6
  · cases hw : wellB v
    · rw [show unaV op v = VVal.zero by simp [unaV, uBad, hw], show unaC op v = 205 by simp [unaC, uBad, hw]]
      rcases ho with rfl | rfl | rfl
      · exact implUna_1 v w hv htab hw
      · exact implUna_2 v w hv htab hw
      · exact implUna_6 v w hv htab hw
    · rw [show unaV op v = unV op v by rcases ho with rfl | rfl | rfl <;> simp [unaV, uBad, hw], show unaC op v = unC op v by rcases ho with rfl | rfl | rfl <;> simp [unaC, uBad, hw]]
      rcases ho with rfl | rfl | rfl
      all_goals exact implUn_any _ v w hv htab hw (by decide)
  · rw [show unaV op v = VVal.zero by simp only [unaV, uBad]; simp; intro a; omega, show unaC op v = 205 by simp only [unaC, uBad]; simp; intro a; omega]
    exact implUna_op v w hv htab op (by omega) (by omega) (by omega)

end Go.Proofs.YtficlopcolglnaaDoor
