/- BinaryValue, both sides. -/
import Derived.Test.YtmikipcfepgogaaDoorE26
namespace Go.Proofs.YtmikipcfepgogaaDoor
set_option linter.unusedVariables false
set_option linter.unusedSimpArgs false
set_option maxRecDepth 100000
open Go.RowKit

set_option maxHeartbeats 2000000 in
theorem specBV_t0 (k n i : Int) (t : ByteArray) (lo hi : Int) (k' n' i' : Int) (t' : ByteArray) (lo' hi' : Int) (op : Int) (HT : ∀ w, Calls Tryd.prog 36 #[.int .i64 op] w fun e w' => e = .returned (.string ByteArray.empty) ∧ Bel w w') (w : World) :
    Calls Tryd.prog 17 #[.int .i64 op, .agg #[.int .i64 k, .int .i64 n, .int .i64 i, .string t, .int .i64 lo, .int .i64 hi], .agg #[.int .i64 k', .int .i64 n', .int .i64 i', .string t', .int .i64 lo', .int .i64 hi']] w fun e w' => e = .returned (.tuple #[.agg #[.int .i64 0, .int .i64 0, .int .i64 0, .string ByteArray.empty, .int .i64 0, .int .i64 0], .int .i64 (205)]) ∧ Bel w w' := by
  have HT' := hide HT
  clear HT
  go_enter Tryd.func17, Tryd.ntmps17
  go_wp2_with (first
  | (go_at_call 36; (with_reducible refine (HT'.out _).mono ?_); rintro e w1 ⟨rfl, hb1⟩; have hz1 := hb1.size; (try simp only [World.size_alloc, World.size_setCell, World.size_drew] at hz1); have hk1_0 := hb1.box (w.heap.size) (by first | (simp; done) | (simp; omega) | omega); have hf1_0 := hb1.boxf (w.heap.size) (by first | (simp; done) | (simp; omega) | omega); have hl1_0 : w.heap.size < w1.heap.size := (by omega); have hn1_0 : ¬ w.heap.size = w1.heap.size := (by omega); have hk1_1 := hb1.box (w.heap.size + 1) (by first | (simp; done) | (simp; omega) | omega); have hf1_1 := hb1.boxf (w.heap.size + 1) (by first | (simp; done) | (simp; omega) | omega); have hl1_1 : w.heap.size + 1 < w1.heap.size := (by omega); have hn1_1 : ¬ w.heap.size + 1 = w1.heap.size := (by omega); (try simp only [VVal.val]); have Z1 := Z6.on Z6.new hb1; (try simp only [World.size_alloc] at Z1); have Y1 := Z1; obtain ⟨cc1_0, cc1_1, cc1_2, cc1_3, cc1_4, cc1_5, cf1, cl1⟩ := Y1))
  all_goals (refine gen_ret6 Z1 fun wz d0 d1 d2 d3 d4 d5 hbz => ?_; exact bodyPost_ret (by simp [results, Tryd.results17, d0, d1, d2, d3, d4, d5, go_sem]; try rfl) rfl ⟨rfl, hbz _ (by repeat' (first | with_reducible exact Bel.refl _ | with_reducible assumption | with_reducible refine Bel.set ?_ ?_ _ | with_reducible refine Bel.alloc ?_ _ | with_reducible refine Bel.drew ?_ | with_reducible refine Bel.drewN ?_ _ | with_reducible refine Bel.trans ?_ (by with_reducible assumption) | (simp; done) | (simp; omega) | refine Bel.alloc ?_ _ | refine Bel.drew ?_ | refine Bel.drewN ?_ _ | refine Bel.set ?_ ?_ _)) (by omega)⟩)

set_option maxHeartbeats 2000000 in
theorem specBV_lo (k n i : Int) (t : ByteArray) (lo hi : Int) (k' n' i' : Int) (t' : ByteArray) (lo' hi' : Int) (op : Int) (s : ByteArray) (hs : ¬ s.toList = []) (HT : ∀ w, Calls Tryd.prog 36 #[.int .i64 op] w fun e w' => e = .returned (.string s) ∧ Bel w w') (o1 : op < 20) (w : World) :
    Calls Tryd.prog 17 #[.int .i64 op, .agg #[.int .i64 k, .int .i64 n, .int .i64 i, .string t, .int .i64 lo, .int .i64 hi], .agg #[.int .i64 k', .int .i64 n', .int .i64 i', .string t', .int .i64 lo', .int .i64 hi']] w fun e w' => e = .returned (.tuple #[.agg #[.int .i64 0, .int .i64 0, .int .i64 0, .string ByteArray.empty, .int .i64 0, .int .i64 0], .int .i64 (205)]) ∧ Bel w w' := by
  have HT' := hide HT
  clear HT
  have n1 : s.toList.isEmpty = false := by simpa using hs
  go_enter Tryd.func17, Tryd.ntmps17
  go_wp2_with (first
  | (go_at_call 36; (with_reducible refine (HT'.out _).mono ?_); rintro e w1 ⟨rfl, hb1⟩; have hz1 := hb1.size; (try simp only [World.size_alloc, World.size_setCell, World.size_drew] at hz1); have hk1_0 := hb1.box (w.heap.size) (by first | (simp; done) | (simp; omega) | omega); have hf1_0 := hb1.boxf (w.heap.size) (by first | (simp; done) | (simp; omega) | omega); have hl1_0 : w.heap.size < w1.heap.size := (by omega); have hn1_0 : ¬ w.heap.size = w1.heap.size := (by omega); have hk1_1 := hb1.box (w.heap.size + 1) (by first | (simp; done) | (simp; omega) | omega); have hf1_1 := hb1.boxf (w.heap.size + 1) (by first | (simp; done) | (simp; omega) | omega); have hl1_1 : w.heap.size + 1 < w1.heap.size := (by omega); have hn1_1 : ¬ w.heap.size + 1 = w1.heap.size := (by omega); (try simp only [VVal.val]); have Z1 := Z6.on Z6.new hb1; (try simp only [World.size_alloc] at Z1); have Y1 := Z1; obtain ⟨cc1_0, cc1_1, cc1_2, cc1_3, cc1_4, cc1_5, cf1, cl1⟩ := Y1))
  all_goals (refine gen_ret6 Z1 fun wz d0 d1 d2 d3 d4 d5 hbz => ?_; exact bodyPost_ret (by simp [results, Tryd.results17, d0, d1, d2, d3, d4, d5, go_sem]; try rfl) rfl ⟨rfl, hbz _ (by repeat' (first | with_reducible exact Bel.refl _ | with_reducible assumption | with_reducible refine Bel.set ?_ ?_ _ | with_reducible refine Bel.alloc ?_ _ | with_reducible refine Bel.drew ?_ | with_reducible refine Bel.drewN ?_ _ | with_reducible refine Bel.trans ?_ (by with_reducible assumption) | (simp; done) | (simp; omega) | refine Bel.alloc ?_ _ | refine Bel.drew ?_ | refine Bel.drewN ?_ _ | refine Bel.set ?_ ?_ _)) (by omega)⟩)

set_option maxHeartbeats 2000000 in
theorem specBV_hi (k n i : Int) (t : ByteArray) (lo hi : Int) (k' n' i' : Int) (t' : ByteArray) (lo' hi' : Int) (op : Int) (s : ByteArray) (hs : ¬ s.toList = []) (HT : ∀ w, Calls Tryd.prog 36 #[.int .i64 op] w fun e w' => e = .returned (.string s) ∧ Bel w w') (o1 : 54 < op) (w : World) :
    Calls Tryd.prog 17 #[.int .i64 op, .agg #[.int .i64 k, .int .i64 n, .int .i64 i, .string t, .int .i64 lo, .int .i64 hi], .agg #[.int .i64 k', .int .i64 n', .int .i64 i', .string t', .int .i64 lo', .int .i64 hi']] w fun e w' => e = .returned (.tuple #[.agg #[.int .i64 0, .int .i64 0, .int .i64 0, .string ByteArray.empty, .int .i64 0, .int .i64 0], .int .i64 (205)]) ∧ Bel w w' := by
  have HT' := hide HT
  clear HT
  have n1 : s.toList.isEmpty = false := by simpa using hs
  have e7 : ¬ op < 20 := by omega
  go_enter Tryd.func17, Tryd.ntmps17
  go_wp2_with (first
  | (go_at_call 36; (with_reducible refine (HT'.out _).mono ?_); rintro e w1 ⟨rfl, hb1⟩; have hz1 := hb1.size; (try simp only [World.size_alloc, World.size_setCell, World.size_drew] at hz1); have hk1_0 := hb1.box (w.heap.size) (by first | (simp; done) | (simp; omega) | omega); have hf1_0 := hb1.boxf (w.heap.size) (by first | (simp; done) | (simp; omega) | omega); have hl1_0 : w.heap.size < w1.heap.size := (by omega); have hn1_0 : ¬ w.heap.size = w1.heap.size := (by omega); have hk1_1 := hb1.box (w.heap.size + 1) (by first | (simp; done) | (simp; omega) | omega); have hf1_1 := hb1.boxf (w.heap.size + 1) (by first | (simp; done) | (simp; omega) | omega); have hl1_1 : w.heap.size + 1 < w1.heap.size := (by omega); have hn1_1 : ¬ w.heap.size + 1 = w1.heap.size := (by omega); (try simp only [VVal.val]); have Z1 := Z6.on Z6.new hb1; (try simp only [World.size_alloc] at Z1); have Y1 := Z1; obtain ⟨cc1_0, cc1_1, cc1_2, cc1_3, cc1_4, cc1_5, cf1, cl1⟩ := Y1))
  all_goals (refine gen_ret6 Z1 fun wz d0 d1 d2 d3 d4 d5 hbz => ?_; exact bodyPost_ret (by simp [results, Tryd.results17, d0, d1, d2, d3, d4, d5, go_sem]; try rfl) rfl ⟨rfl, hbz _ (by repeat' (first | with_reducible exact Bel.refl _ | with_reducible assumption | with_reducible refine Bel.set ?_ ?_ _ | with_reducible refine Bel.alloc ?_ _ | with_reducible refine Bel.drew ?_ | with_reducible refine Bel.drewN ?_ _ | with_reducible refine Bel.trans ?_ (by with_reducible assumption) | (simp; done) | (simp; omega) | refine Bel.alloc ?_ _ | refine Bel.drew ?_ | refine Bel.drewN ?_ _ | refine Bel.set ?_ ?_ _)) (by omega)⟩)

set_option maxHeartbeats 2000000 in
theorem specBV_51 (k n i : Int) (t : ByteArray) (lo hi : Int) (k' n' i' : Int) (t' : ByteArray) (lo' hi' : Int) (op : Int) (s : ByteArray) (hs : ¬ s.toList = []) (HT : ∀ w, Calls Tryd.prog 36 #[.int .i64 op] w fun e w' => e = .returned (.string s) ∧ Bel w w') (o1 : op = 51) (w : World) :
    Calls Tryd.prog 17 #[.int .i64 op, .agg #[.int .i64 k, .int .i64 n, .int .i64 i, .string t, .int .i64 lo, .int .i64 hi], .agg #[.int .i64 k', .int .i64 n', .int .i64 i', .string t', .int .i64 lo', .int .i64 hi']] w fun e w' => e = .returned (.tuple #[.agg #[.int .i64 0, .int .i64 0, .int .i64 0, .string ByteArray.empty, .int .i64 0, .int .i64 0], .int .i64 (205)]) ∧ Bel w w' := by
  have HT' := hide HT
  clear HT
  have n1 : s.toList.isEmpty = false := by simpa using hs
  have e3 : (op == 51) = true := by simp [o1]
  have e4 : 20 ≤ op ∧ op ≤ 54 := by omega
  obtain ⟨e5, e6⟩ := e4
  clear o1
  go_enter Tryd.func17, Tryd.ntmps17
  go_wp2_with (first
  | (go_at_call 36; (with_reducible refine (HT'.out _).mono ?_); rintro e w1 ⟨rfl, hb1⟩; have hz1 := hb1.size; (try simp only [World.size_alloc, World.size_setCell, World.size_drew] at hz1); have hk1_0 := hb1.box (w.heap.size) (by first | (simp; done) | (simp; omega) | omega); have hf1_0 := hb1.boxf (w.heap.size) (by first | (simp; done) | (simp; omega) | omega); have hl1_0 : w.heap.size < w1.heap.size := (by omega); have hn1_0 : ¬ w.heap.size = w1.heap.size := (by omega); have hk1_1 := hb1.box (w.heap.size + 1) (by first | (simp; done) | (simp; omega) | omega); have hf1_1 := hb1.boxf (w.heap.size + 1) (by first | (simp; done) | (simp; omega) | omega); have hl1_1 : w.heap.size + 1 < w1.heap.size := (by omega); have hn1_1 : ¬ w.heap.size + 1 = w1.heap.size := (by omega); (try simp only [VVal.val]); have Z1 := Z6.on Z6.new hb1; (try simp only [World.size_alloc] at Z1); have Y1 := Z1; obtain ⟨cc1_0, cc1_1, cc1_2, cc1_3, cc1_4, cc1_5, cf1, cl1⟩ := Y1))
  all_goals (refine gen_ret6 Z1 fun wz d0 d1 d2 d3 d4 d5 hbz => ?_; exact bodyPost_ret (by simp [results, Tryd.results17, d0, d1, d2, d3, d4, d5, go_sem]; try rfl) rfl ⟨rfl, hbz _ (by repeat' (first | with_reducible exact Bel.refl _ | with_reducible assumption | with_reducible refine Bel.set ?_ ?_ _ | with_reducible refine Bel.alloc ?_ _ | with_reducible refine Bel.drew ?_ | with_reducible refine Bel.drewN ?_ _ | with_reducible refine Bel.trans ?_ (by with_reducible assumption) | (simp; done) | (simp; omega) | refine Bel.alloc ?_ _ | refine Bel.drew ?_ | refine Bel.drewN ?_ _ | refine Bel.set ?_ ?_ _)) (by omega)⟩)

set_option maxHeartbeats 2000000 in
theorem specBV_wa (k n i : Int) (t : ByteArray) (lo hi : Int) (k' n' i' : Int) (t' : ByteArray) (lo' hi' : Int) (op : Int) (s : ByteArray) (hs : ¬ s.toList = []) (HT : ∀ w, Calls Tryd.prog 36 #[.int .i64 op] w fun e w' => e = .returned (.string s) ∧ Bel w w') (o1 : 20 ≤ op) (o2 : op ≤ 54) (o3 : ¬ op = 51) (HA : ∀ w, Calls Tryd.prog 43 #[.agg #[.int .i64 k, .int .i64 n, .int .i64 i, .string t, .int .i64 lo, .int .i64 hi]] w fun e w' => e = .returned (.bool false) ∧ Bel w w') (w : World) :
    Calls Tryd.prog 17 #[.int .i64 op, .agg #[.int .i64 k, .int .i64 n, .int .i64 i, .string t, .int .i64 lo, .int .i64 hi], .agg #[.int .i64 k', .int .i64 n', .int .i64 i', .string t', .int .i64 lo', .int .i64 hi']] w fun e w' => e = .returned (.tuple #[.agg #[.int .i64 0, .int .i64 0, .int .i64 0, .string ByteArray.empty, .int .i64 0, .int .i64 0], .int .i64 (205)]) ∧ Bel w w' := by
  have HT' := hide HT
  clear HT
  have HA' := hide HA
  clear HA
  have n1 : s.toList.isEmpty = false := by simpa using hs
  have e3 : (op == 51) = false := by simp [o3]
  clear o3
  go_enter Tryd.func17, Tryd.ntmps17
  go_wp2_with (first
  | (go_at_call 36; (with_reducible refine (HT'.out _).mono ?_); rintro e w1 ⟨rfl, hb1⟩; have hz1 := hb1.size; (try simp only [World.size_alloc, World.size_setCell, World.size_drew] at hz1); have hk1_0 := hb1.box (w.heap.size) (by first | (simp; done) | (simp; omega) | omega); have hf1_0 := hb1.boxf (w.heap.size) (by first | (simp; done) | (simp; omega) | omega); have hl1_0 : w.heap.size < w1.heap.size := (by omega); have hn1_0 : ¬ w.heap.size = w1.heap.size := (by omega); have hk1_1 := hb1.box (w.heap.size + 1) (by first | (simp; done) | (simp; omega) | omega); have hf1_1 := hb1.boxf (w.heap.size + 1) (by first | (simp; done) | (simp; omega) | omega); have hl1_1 : w.heap.size + 1 < w1.heap.size := (by omega); have hn1_1 : ¬ w.heap.size + 1 = w1.heap.size := (by omega); (try simp only [VVal.val]); have Z1 := Z6.on Z6.new hb1; (try simp only [World.size_alloc] at Z1); have Y1 := Z1; obtain ⟨cc1_0, cc1_1, cc1_2, cc1_3, cc1_4, cc1_5, cf1, cl1⟩ := Y1)
  | (go_at_call 43; (with_reducible refine (HA'.out _).mono ?_); rintro e w2 ⟨rfl, hb2⟩; have hz2 := hb2.size; (try simp only [World.size_alloc, World.size_setCell, World.size_drew] at hz2); have hk2_0 := hb2.box (w.heap.size) (by first | (simp; done) | (simp; omega) | omega); have hf2_0 := hb2.boxf (w.heap.size) (by first | (simp; done) | (simp; omega) | omega); have hl2_0 : w.heap.size < w2.heap.size := (by omega); have hn2_0 : ¬ w.heap.size = w2.heap.size := (by omega); have hk2_1 := hb2.box (w.heap.size + 1) (by first | (simp; done) | (simp; omega) | omega); have hf2_1 := hb2.boxf (w.heap.size + 1) (by first | (simp; done) | (simp; omega) | omega); have hl2_1 : w.heap.size + 1 < w2.heap.size := (by omega); have hn2_1 : ¬ w.heap.size + 1 = w2.heap.size := (by omega); (try simp only [VVal.val]); have Z2 : Z6 w2 _ := Z6.on Z1 (by repeat' (first | with_reducible exact Bel.refl _ | with_reducible assumption | with_reducible refine Bel.set ?_ ?_ _ | with_reducible refine Bel.alloc ?_ _ | with_reducible refine Bel.drew ?_ | with_reducible refine Bel.drewN ?_ _ | with_reducible refine Bel.trans ?_ (by with_reducible assumption) | (simp; done) | (simp; omega) | refine Bel.alloc ?_ _ | refine Bel.drew ?_ | refine Bel.drewN ?_ _ | refine Bel.set ?_ ?_ _)); have Y2 := Z2; obtain ⟨cc2_0, cc2_1, cc2_2, cc2_3, cc2_4, cc2_5, cf2, cl2⟩ := Y2))
  all_goals (refine gen_ret6 Z2 fun wz d0 d1 d2 d3 d4 d5 hbz => ?_; exact bodyPost_ret (by simp [results, Tryd.results17, d0, d1, d2, d3, d4, d5, go_sem]; try rfl) rfl ⟨rfl, hbz _ (by repeat' (first | with_reducible exact Bel.refl _ | with_reducible assumption | with_reducible refine Bel.set ?_ ?_ _ | with_reducible refine Bel.alloc ?_ _ | with_reducible refine Bel.drew ?_ | with_reducible refine Bel.drewN ?_ _ | with_reducible refine Bel.trans ?_ (by with_reducible assumption) | (simp; done) | (simp; omega) | refine Bel.alloc ?_ _ | refine Bel.drew ?_ | refine Bel.drewN ?_ _ | refine Bel.set ?_ ?_ _)) (by omega)⟩)

set_option maxHeartbeats 2000000 in
theorem specBV_wb (k n i : Int) (t : ByteArray) (lo hi : Int) (k' n' i' : Int) (t' : ByteArray) (lo' hi' : Int) (op : Int) (s : ByteArray) (hs : ¬ s.toList = []) (HT : ∀ w, Calls Tryd.prog 36 #[.int .i64 op] w fun e w' => e = .returned (.string s) ∧ Bel w w') (o1 : 20 ≤ op) (o2 : op ≤ 54) (o3 : ¬ op = 51) (HA : ∀ w, Calls Tryd.prog 43 #[.agg #[.int .i64 k, .int .i64 n, .int .i64 i, .string t, .int .i64 lo, .int .i64 hi]] w fun e w' => e = .returned (.bool true) ∧ Bel w w') (HW : ∀ w, Calls Tryd.prog 43 #[.agg #[.int .i64 k', .int .i64 n', .int .i64 i', .string t', .int .i64 lo', .int .i64 hi']] w fun e w' => e = .returned (.bool false) ∧ Bel w w') (w : World) :
    Calls Tryd.prog 17 #[.int .i64 op, .agg #[.int .i64 k, .int .i64 n, .int .i64 i, .string t, .int .i64 lo, .int .i64 hi], .agg #[.int .i64 k', .int .i64 n', .int .i64 i', .string t', .int .i64 lo', .int .i64 hi']] w fun e w' => e = .returned (.tuple #[.agg #[.int .i64 0, .int .i64 0, .int .i64 0, .string ByteArray.empty, .int .i64 0, .int .i64 0], .int .i64 (205)]) ∧ Bel w w' := by
  have HT' := hide HT
  clear HT
  have HA' := hide HA
  clear HA
  have HW' := hide HW
  clear HW
  have n1 : s.toList.isEmpty = false := by simpa using hs
  have e3 : (op == 51) = false := by simp [o3]
  clear o3
  go_enter Tryd.func17, Tryd.ntmps17
  go_wp2_with (first
  | (go_at_call 36; (with_reducible refine (HT'.out _).mono ?_); rintro e w1 ⟨rfl, hb1⟩; have hz1 := hb1.size; (try simp only [World.size_alloc, World.size_setCell, World.size_drew] at hz1); have hk1_0 := hb1.box (w.heap.size) (by first | (simp; done) | (simp; omega) | omega); have hf1_0 := hb1.boxf (w.heap.size) (by first | (simp; done) | (simp; omega) | omega); have hl1_0 : w.heap.size < w1.heap.size := (by omega); have hn1_0 : ¬ w.heap.size = w1.heap.size := (by omega); have hk1_1 := hb1.box (w.heap.size + 1) (by first | (simp; done) | (simp; omega) | omega); have hf1_1 := hb1.boxf (w.heap.size + 1) (by first | (simp; done) | (simp; omega) | omega); have hl1_1 : w.heap.size + 1 < w1.heap.size := (by omega); have hn1_1 : ¬ w.heap.size + 1 = w1.heap.size := (by omega); (try simp only [VVal.val]); have Z1 := Z6.on Z6.new hb1; (try simp only [World.size_alloc] at Z1); have Y1 := Z1; obtain ⟨cc1_0, cc1_1, cc1_2, cc1_3, cc1_4, cc1_5, cf1, cl1⟩ := Y1)
  | (go_at_call 43; (with_reducible refine (HA'.out _).mono ?_); rintro e w2 ⟨rfl, hb2⟩; have hz2 := hb2.size; (try simp only [World.size_alloc, World.size_setCell, World.size_drew] at hz2); have hk2_0 := hb2.box (w.heap.size) (by first | (simp; done) | (simp; omega) | omega); have hf2_0 := hb2.boxf (w.heap.size) (by first | (simp; done) | (simp; omega) | omega); have hl2_0 : w.heap.size < w2.heap.size := (by omega); have hn2_0 : ¬ w.heap.size = w2.heap.size := (by omega); have hk2_1 := hb2.box (w.heap.size + 1) (by first | (simp; done) | (simp; omega) | omega); have hf2_1 := hb2.boxf (w.heap.size + 1) (by first | (simp; done) | (simp; omega) | omega); have hl2_1 : w.heap.size + 1 < w2.heap.size := (by omega); have hn2_1 : ¬ w.heap.size + 1 = w2.heap.size := (by omega); (try simp only [VVal.val]); have Z2 : Z6 w2 _ := Z6.on Z1 (by repeat' (first | with_reducible exact Bel.refl _ | with_reducible assumption | with_reducible refine Bel.set ?_ ?_ _ | with_reducible refine Bel.alloc ?_ _ | with_reducible refine Bel.drew ?_ | with_reducible refine Bel.drewN ?_ _ | with_reducible refine Bel.trans ?_ (by with_reducible assumption) | (simp; done) | (simp; omega) | refine Bel.alloc ?_ _ | refine Bel.drew ?_ | refine Bel.drewN ?_ _ | refine Bel.set ?_ ?_ _)); have Y2 := Z2; obtain ⟨cc2_0, cc2_1, cc2_2, cc2_3, cc2_4, cc2_5, cf2, cl2⟩ := Y2)
  | (go_at_call 43; (with_reducible refine (HW'.out _).mono ?_); rintro e w3 ⟨rfl, hb3⟩; have hz3 := hb3.size; (try simp only [World.size_alloc, World.size_setCell, World.size_drew] at hz3); have hk3_0 := hb3.box (w.heap.size) (by first | (simp; done) | (simp; omega) | omega); have hf3_0 := hb3.boxf (w.heap.size) (by first | (simp; done) | (simp; omega) | omega); have hl3_0 : w.heap.size < w3.heap.size := (by omega); have hn3_0 : ¬ w.heap.size = w3.heap.size := (by omega); have hk3_1 := hb3.box (w.heap.size + 1) (by first | (simp; done) | (simp; omega) | omega); have hf3_1 := hb3.boxf (w.heap.size + 1) (by first | (simp; done) | (simp; omega) | omega); have hl3_1 : w.heap.size + 1 < w3.heap.size := (by omega); have hn3_1 : ¬ w.heap.size + 1 = w3.heap.size := (by omega); (try simp only [VVal.val]); have Z3 : Z6 w3 _ := Z6.on Z2 (by repeat' (first | with_reducible exact Bel.refl _ | with_reducible assumption | with_reducible refine Bel.set ?_ ?_ _ | with_reducible refine Bel.alloc ?_ _ | with_reducible refine Bel.drew ?_ | with_reducible refine Bel.drewN ?_ _ | with_reducible refine Bel.trans ?_ (by with_reducible assumption) | (simp; done) | (simp; omega) | refine Bel.alloc ?_ _ | refine Bel.drew ?_ | refine Bel.drewN ?_ _ | refine Bel.set ?_ ?_ _)); have Y3 := Z3; obtain ⟨cc3_0, cc3_1, cc3_2, cc3_3, cc3_4, cc3_5, cf3, cl3⟩ := Y3))
  all_goals (refine gen_ret6 Z3 fun wz d0 d1 d2 d3 d4 d5 hbz => ?_; exact bodyPost_ret (by simp [results, Tryd.results17, d0, d1, d2, d3, d4, d5, go_sem]; try rfl) rfl ⟨rfl, hbz _ (by repeat' (first | with_reducible exact Bel.refl _ | with_reducible assumption | with_reducible refine Bel.set ?_ ?_ _ | with_reducible refine Bel.alloc ?_ _ | with_reducible refine Bel.drew ?_ | with_reducible refine Bel.drewN ?_ _ | with_reducible refine Bel.trans ?_ (by with_reducible assumption) | (simp; done) | (simp; omega) | refine Bel.alloc ?_ _ | refine Bel.drew ?_ | refine Bel.drewN ?_ _ | refine Bel.set ?_ ?_ _)) (by omega)⟩)

set_option maxHeartbeats 2000000 in
theorem specBV_ok (k n i : Int) (t : ByteArray) (lo hi : Int) (k' n' i' : Int) (t' : ByteArray) (lo' hi' : Int) (op : Int) (s : ByteArray) (hs : ¬ s.toList = []) (HT : ∀ w, Calls Tryd.prog 36 #[.int .i64 op] w fun e w' => e = .returned (.string s) ∧ Bel w w') (o1 : 20 ≤ op) (o2 : op ≤ 54) (o3 : ¬ op = 51) (HA : ∀ w, Calls Tryd.prog 43 #[.agg #[.int .i64 k, .int .i64 n, .int .i64 i, .string t, .int .i64 lo, .int .i64 hi]] w fun e w' => e = .returned (.bool true) ∧ Bel w w') (HW : ∀ w, Calls Tryd.prog 43 #[.agg #[.int .i64 k', .int .i64 n', .int .i64 i', .string t', .int .i64 lo', .int .i64 hi']] w fun e w' => e = .returned (.bool true) ∧ Bel w w') (u0 u1 u2 u4 u5 c : Int) (u3 : ByteArray) (HB : ∀ w, Calls Tryd.prog 44 #[.int .i64 op, .agg #[.int .i64 k, .int .i64 n, .int .i64 i, .string t, .int .i64 lo, .int .i64 hi], .agg #[.int .i64 k', .int .i64 n', .int .i64 i', .string t', .int .i64 lo', .int .i64 hi']] w fun e w' => e = .returned (.tuple #[.agg #[.int .i64 u0, .int .i64 u1, .int .i64 u2, .string u3, .int .i64 u4, .int .i64 u5], .int .i64 c]) ∧ Bel w w') (w : World) :
    Calls Tryd.prog 17 #[.int .i64 op, .agg #[.int .i64 k, .int .i64 n, .int .i64 i, .string t, .int .i64 lo, .int .i64 hi], .agg #[.int .i64 k', .int .i64 n', .int .i64 i', .string t', .int .i64 lo', .int .i64 hi']] w fun e w' => e = .returned (.tuple #[.agg #[.int .i64 u0, .int .i64 u1, .int .i64 u2, .string u3, .int .i64 u4, .int .i64 u5], .int .i64 (c)]) ∧ Bel w w' := by
  have HT' := hide HT
  clear HT
  have HA' := hide HA
  clear HA
  have HW' := hide HW
  clear HW
  have HB' := hide HB
  clear HB
  have n1 : s.toList.isEmpty = false := by simpa using hs
  have e3 : (op == 51) = false := by simp [o3]
  clear o3
  go_enter Tryd.func17, Tryd.ntmps17
  go_wp2_with (first
  | (go_at_call 36; (with_reducible refine (HT'.out _).mono ?_); rintro e w1 ⟨rfl, hb1⟩; have hz1 := hb1.size; (try simp only [World.size_alloc, World.size_setCell, World.size_drew] at hz1); have hk1_0 := hb1.box (w.heap.size) (by first | (simp; done) | (simp; omega) | omega); have hf1_0 := hb1.boxf (w.heap.size) (by first | (simp; done) | (simp; omega) | omega); have hl1_0 : w.heap.size < w1.heap.size := (by omega); have hn1_0 : ¬ w.heap.size = w1.heap.size := (by omega); have hk1_1 := hb1.box (w.heap.size + 1) (by first | (simp; done) | (simp; omega) | omega); have hf1_1 := hb1.boxf (w.heap.size + 1) (by first | (simp; done) | (simp; omega) | omega); have hl1_1 : w.heap.size + 1 < w1.heap.size := (by omega); have hn1_1 : ¬ w.heap.size + 1 = w1.heap.size := (by omega); (try simp only [VVal.val]); have Z1 := Z6.on Z6.new hb1; (try simp only [World.size_alloc] at Z1); have Y1 := Z1; obtain ⟨cc1_0, cc1_1, cc1_2, cc1_3, cc1_4, cc1_5, cf1, cl1⟩ := Y1)
  | (go_at_call 43; (with_reducible refine (HA'.out _).mono ?_); rintro e w2 ⟨rfl, hb2⟩; have hz2 := hb2.size; (try simp only [World.size_alloc, World.size_setCell, World.size_drew] at hz2); have hk2_0 := hb2.box (w.heap.size) (by first | (simp; done) | (simp; omega) | omega); have hf2_0 := hb2.boxf (w.heap.size) (by first | (simp; done) | (simp; omega) | omega); have hl2_0 : w.heap.size < w2.heap.size := (by omega); have hn2_0 : ¬ w.heap.size = w2.heap.size := (by omega); have hk2_1 := hb2.box (w.heap.size + 1) (by first | (simp; done) | (simp; omega) | omega); have hf2_1 := hb2.boxf (w.heap.size + 1) (by first | (simp; done) | (simp; omega) | omega); have hl2_1 : w.heap.size + 1 < w2.heap.size := (by omega); have hn2_1 : ¬ w.heap.size + 1 = w2.heap.size := (by omega); (try simp only [VVal.val]); have Z2 : Z6 w2 _ := Z6.on Z1 (by repeat' (first | with_reducible exact Bel.refl _ | with_reducible assumption | with_reducible refine Bel.set ?_ ?_ _ | with_reducible refine Bel.alloc ?_ _ | with_reducible refine Bel.drew ?_ | with_reducible refine Bel.drewN ?_ _ | with_reducible refine Bel.trans ?_ (by with_reducible assumption) | (simp; done) | (simp; omega) | refine Bel.alloc ?_ _ | refine Bel.drew ?_ | refine Bel.drewN ?_ _ | refine Bel.set ?_ ?_ _)); have Y2 := Z2; obtain ⟨cc2_0, cc2_1, cc2_2, cc2_3, cc2_4, cc2_5, cf2, cl2⟩ := Y2)
  | (go_at_call 43; (with_reducible refine (HW'.out _).mono ?_); rintro e w3 ⟨rfl, hb3⟩; have hz3 := hb3.size; (try simp only [World.size_alloc, World.size_setCell, World.size_drew] at hz3); have hk3_0 := hb3.box (w.heap.size) (by first | (simp; done) | (simp; omega) | omega); have hf3_0 := hb3.boxf (w.heap.size) (by first | (simp; done) | (simp; omega) | omega); have hl3_0 : w.heap.size < w3.heap.size := (by omega); have hn3_0 : ¬ w.heap.size = w3.heap.size := (by omega); have hk3_1 := hb3.box (w.heap.size + 1) (by first | (simp; done) | (simp; omega) | omega); have hf3_1 := hb3.boxf (w.heap.size + 1) (by first | (simp; done) | (simp; omega) | omega); have hl3_1 : w.heap.size + 1 < w3.heap.size := (by omega); have hn3_1 : ¬ w.heap.size + 1 = w3.heap.size := (by omega); (try simp only [VVal.val]); have Z3 : Z6 w3 _ := Z6.on Z2 (by repeat' (first | with_reducible exact Bel.refl _ | with_reducible assumption | with_reducible refine Bel.set ?_ ?_ _ | with_reducible refine Bel.alloc ?_ _ | with_reducible refine Bel.drew ?_ | with_reducible refine Bel.drewN ?_ _ | with_reducible refine Bel.trans ?_ (by with_reducible assumption) | (simp; done) | (simp; omega) | refine Bel.alloc ?_ _ | refine Bel.drew ?_ | refine Bel.drewN ?_ _ | refine Bel.set ?_ ?_ _)); have Y3 := Z3; obtain ⟨cc3_0, cc3_1, cc3_2, cc3_3, cc3_4, cc3_5, cf3, cl3⟩ := Y3)
  | (go_at_call 44; (with_reducible refine (HB'.out _).mono ?_); rintro e w4 ⟨rfl, hb4⟩; have hz4 := hb4.size; (try simp only [World.size_alloc, World.size_setCell, World.size_drew] at hz4); have hk4_0 := hb4.box (w.heap.size) (by first | (simp; done) | (simp; omega) | omega); have hf4_0 := hb4.boxf (w.heap.size) (by first | (simp; done) | (simp; omega) | omega); have hl4_0 : w.heap.size < w4.heap.size := (by omega); have hn4_0 : ¬ w.heap.size = w4.heap.size := (by omega); have hk4_1 := hb4.box (w.heap.size + 1) (by first | (simp; done) | (simp; omega) | omega); have hf4_1 := hb4.boxf (w.heap.size + 1) (by first | (simp; done) | (simp; omega) | omega); have hl4_1 : w.heap.size + 1 < w4.heap.size := (by omega); have hn4_1 : ¬ w.heap.size + 1 = w4.heap.size := (by omega); (try simp only [VVal.val]); have Z4 : Z6 w4 _ := Z6.on Z3 (by repeat' (first | with_reducible exact Bel.refl _ | with_reducible assumption | with_reducible refine Bel.set ?_ ?_ _ | with_reducible refine Bel.alloc ?_ _ | with_reducible refine Bel.drew ?_ | with_reducible refine Bel.drewN ?_ _ | with_reducible refine Bel.trans ?_ (by with_reducible assumption) | (simp; done) | (simp; omega) | refine Bel.alloc ?_ _ | refine Bel.drew ?_ | refine Bel.drewN ?_ _ | refine Bel.set ?_ ?_ _)); have Y4 := Z4; obtain ⟨cc4_0, cc4_1, cc4_2, cc4_3, cc4_4, cc4_5, cf4, cl4⟩ := Y4))
  all_goals (refine gen_ret6 Z4 fun wz d0 d1 d2 d3 d4 d5 hbz => ?_; exact bodyPost_ret (by simp [results, Tryd.results17, d0, d1, d2, d3, d4, d5, go_sem]; try rfl) rfl ⟨rfl, hbz _ (by repeat' (first | with_reducible exact Bel.refl _ | with_reducible assumption | with_reducible refine Bel.set ?_ ?_ _ | with_reducible refine Bel.alloc ?_ _ | with_reducible refine Bel.drew ?_ | with_reducible refine Bel.drewN ?_ _ | with_reducible refine Bel.trans ?_ (by with_reducible assumption) | (simp; done) | (simp; omega) | refine Bel.alloc ?_ _ | refine Bel.drew ?_ | refine Bel.drewN ?_ _ | refine Bel.set ?_ ?_ _)) (by omega)⟩)

set_option maxHeartbeats 2000000 in
theorem implBV_lo (k n i : Int) (t : ByteArray) (lo hi : Int) (k' n' i' : Int) (t' : ByteArray) (lo' hi' : Int) (op : Int) (o1 : op < 20) (w : World) (hsp : Sp w) (htab : P10 w) :
    Calls Tryd.prog 19 #[.int .i64 op, .agg #[.int .i64 k, .int .i64 n, .int .i64 i, .string t, .int .i64 lo, .int .i64 hi], .agg #[.int .i64 k', .int .i64 n', .int .i64 i', .string t', .int .i64 lo', .int .i64 hi']] w fun e w' => e = .returned (.tuple #[.agg #[.int .i64 0, .int .i64 0, .int .i64 0, .string ByteArray.empty, .int .i64 0, .int .i64 0], .int .i64 (205)]) ∧ Bel w w' := by
  go_enter Tryd.func19, Tryd.ntmps19
  go_wp2_with (fail)
  all_goals
    go_returns
    exact ⟨rfl, (by repeat' (first | with_reducible exact Bel.refl _ | with_reducible assumption | with_reducible refine Bel.set ?_ ?_ _ | with_reducible refine Bel.alloc ?_ _ | with_reducible refine Bel.drew ?_ | with_reducible refine Bel.drewN ?_ _ | with_reducible refine Bel.trans ?_ (by with_reducible assumption) | (simp; done) | (simp; omega) | refine Bel.alloc ?_ _ | refine Bel.drew ?_ | refine Bel.drewN ?_ _ | refine Bel.set ?_ ?_ _))⟩

set_option maxHeartbeats 2000000 in
theorem implBV_hi (k n i : Int) (t : ByteArray) (lo hi : Int) (k' n' i' : Int) (t' : ByteArray) (lo' hi' : Int) (op : Int) (o1 : 54 < op) (w : World) (hsp : Sp w) (htab : P10 w) :
    Calls Tryd.prog 19 #[.int .i64 op, .agg #[.int .i64 k, .int .i64 n, .int .i64 i, .string t, .int .i64 lo, .int .i64 hi], .agg #[.int .i64 k', .int .i64 n', .int .i64 i', .string t', .int .i64 lo', .int .i64 hi']] w fun e w' => e = .returned (.tuple #[.agg #[.int .i64 0, .int .i64 0, .int .i64 0, .string ByteArray.empty, .int .i64 0, .int .i64 0], .int .i64 (205)]) ∧ Bel w w' := by
  have e7 : ¬ op < 20 := by omega
  go_enter Tryd.func19, Tryd.ntmps19
  go_wp2_with (fail)
  all_goals
    go_returns
    exact ⟨rfl, (by repeat' (first | with_reducible exact Bel.refl _ | with_reducible assumption | with_reducible refine Bel.set ?_ ?_ _ | with_reducible refine Bel.alloc ?_ _ | with_reducible refine Bel.drew ?_ | with_reducible refine Bel.drewN ?_ _ | with_reducible refine Bel.trans ?_ (by with_reducible assumption) | (simp; done) | (simp; omega) | refine Bel.alloc ?_ _ | refine Bel.drew ?_ | refine Bel.drewN ?_ _ | refine Bel.set ?_ ?_ _))⟩

set_option maxHeartbeats 2000000 in
theorem implBV_51 (k n i : Int) (t : ByteArray) (lo hi : Int) (k' n' i' : Int) (t' : ByteArray) (lo' hi' : Int) (op : Int) (o1 : op = 51) (w : World) (hsp : Sp w) (htab : P10 w) :
    Calls Tryd.prog 19 #[.int .i64 op, .agg #[.int .i64 k, .int .i64 n, .int .i64 i, .string t, .int .i64 lo, .int .i64 hi], .agg #[.int .i64 k', .int .i64 n', .int .i64 i', .string t', .int .i64 lo', .int .i64 hi']] w fun e w' => e = .returned (.tuple #[.agg #[.int .i64 0, .int .i64 0, .int .i64 0, .string ByteArray.empty, .int .i64 0, .int .i64 0], .int .i64 (205)]) ∧ Bel w w' := by
  have e3 : (op == 51) = true := by simp [o1]
  have e4 : 20 ≤ op ∧ op ≤ 54 := by omega
  obtain ⟨e5, e6⟩ := e4
  clear o1
  go_enter Tryd.func19, Tryd.ntmps19
  go_wp2_with (fail)
  all_goals
    go_returns
    exact ⟨rfl, (by repeat' (first | with_reducible exact Bel.refl _ | with_reducible assumption | with_reducible refine Bel.set ?_ ?_ _ | with_reducible refine Bel.alloc ?_ _ | with_reducible refine Bel.drew ?_ | with_reducible refine Bel.drewN ?_ _ | with_reducible refine Bel.trans ?_ (by with_reducible assumption) | (simp; done) | (simp; omega) | refine Bel.alloc ?_ _ | refine Bel.drew ?_ | refine Bel.drewN ?_ _ | refine Bel.set ?_ ?_ _))⟩

set_option maxHeartbeats 2000000 in
theorem implBV_t0 (k n i : Int) (t : ByteArray) (lo hi : Int) (k' n' i' : Int) (t' : ByteArray) (lo' hi' : Int) (op : Int) (HT : ∀ w, Sp w → Calls Tryd.prog 40 #[.int .i64 op] w fun e w' => e = .returned (.string ByteArray.empty) ∧ Bel w w') (o1 : 20 ≤ op) (o2 : op ≤ 54) (o3 : ¬ op = 51)  (w : World) (hsp : Sp w) (htab : P10 w) :
    Calls Tryd.prog 19 #[.int .i64 op, .agg #[.int .i64 k, .int .i64 n, .int .i64 i, .string t, .int .i64 lo, .int .i64 hi], .agg #[.int .i64 k', .int .i64 n', .int .i64 i', .string t', .int .i64 lo', .int .i64 hi']] w fun e w' => e = .returned (.tuple #[.agg #[.int .i64 0, .int .i64 0, .int .i64 0, .string ByteArray.empty, .int .i64 0, .int .i64 0], .int .i64 (205)]) ∧ Bel w w' := by
  have HT' := hide HT
  clear HT
  have e3 : (op == 51) = false := by simp [o3]
  clear o3
  go_enter Tryd.func19, Tryd.ntmps19
  go_wp2_with (first
  | (go_at_call 40; (with_reducible refine (HT'.out _ (hsp.on (by repeat' (first | exact Bel.refl _ | with_reducible assumption | refine Bel.trans ?_ (by with_reducible assumption) | refine Bel.alloc ?_ _ | refine Bel.drew ?_ | refine Bel.drewN ?_ _ | refine Bel.set ?_ ?_ _ | (simp; done) | (simp; omega) | omega)))).mono ?_); rintro e w1 ⟨rfl, hb1⟩; have hz1 := hb1.size; (try simp only [World.size_alloc, World.size_setCell, World.size_drew] at hz1); have hk1_0 := hb1.box (w.heap.size) (by first | (simp; done) | (simp; omega) | omega); have hf1_0 := hb1.boxf (w.heap.size) (by first | (simp; done) | (simp; omega) | omega); have hl1_0 : w.heap.size < w1.heap.size := (by omega); have hn1_0 : ¬ w.heap.size = w1.heap.size := (by omega); have hk1_1 := hb1.box (w.heap.size + 1) (by first | (simp; done) | (simp; omega) | omega); have hf1_1 := hb1.boxf (w.heap.size + 1) (by first | (simp; done) | (simp; omega) | omega); have hl1_1 : w.heap.size + 1 < w1.heap.size := (by omega); have hn1_1 : ¬ w.heap.size + 1 = w1.heap.size := (by omega); (try simp only [VVal.val]); have Z1 := Z6.on Z6.new hb1; (try simp only [World.size_alloc] at Z1); have Y1 := Z1; obtain ⟨cc1_0, cc1_1, cc1_2, cc1_3, cc1_4, cc1_5, cf1, cl1⟩ := Y1))
  all_goals (refine gen_ret6 Z1 fun wz d0 d1 d2 d3 d4 d5 hbz => ?_; exact bodyPost_ret (by simp [results, Tryd.results19, d0, d1, d2, d3, d4, d5, go_sem]; try rfl) rfl ⟨rfl, hbz _ (by repeat' (first | with_reducible exact Bel.refl _ | with_reducible assumption | with_reducible refine Bel.set ?_ ?_ _ | with_reducible refine Bel.alloc ?_ _ | with_reducible refine Bel.drew ?_ | with_reducible refine Bel.drewN ?_ _ | with_reducible refine Bel.trans ?_ (by with_reducible assumption) | (simp; done) | (simp; omega) | refine Bel.alloc ?_ _ | refine Bel.drew ?_ | refine Bel.drewN ?_ _ | refine Bel.set ?_ ?_ _)) (by omega)⟩)

set_option maxHeartbeats 2000000 in
theorem implBV_wa (k n i : Int) (t : ByteArray) (lo hi : Int) (k' n' i' : Int) (t' : ByteArray) (lo' hi' : Int) (op : Int) (s : ByteArray) (hs : ¬ s.toList = []) (HT : ∀ w, Sp w → Calls Tryd.prog 40 #[.int .i64 op] w fun e w' => e = .returned (.string s) ∧ Bel w w') (o1 : 20 ≤ op) (o2 : op ≤ 54) (o3 : ¬ op = 51) (HA : ∀ w, Calls Tryd.prog 45 #[.agg #[.int .i64 k, .int .i64 n, .int .i64 i, .string t, .int .i64 lo, .int .i64 hi]] w fun e w' => e = .returned (.bool false) ∧ Bel w w') (w : World) (hsp : Sp w) (htab : P10 w) :
    Calls Tryd.prog 19 #[.int .i64 op, .agg #[.int .i64 k, .int .i64 n, .int .i64 i, .string t, .int .i64 lo, .int .i64 hi], .agg #[.int .i64 k', .int .i64 n', .int .i64 i', .string t', .int .i64 lo', .int .i64 hi']] w fun e w' => e = .returned (.tuple #[.agg #[.int .i64 0, .int .i64 0, .int .i64 0, .string ByteArray.empty, .int .i64 0, .int .i64 0], .int .i64 (205)]) ∧ Bel w w' := by
  have HT' := hide HT
  clear HT
  have HA' := hide HA
  clear HA
  have n1 : s.toList.isEmpty = false := by simpa using hs
  have e3 : (op == 51) = false := by simp [o3]
  clear o3
  go_enter Tryd.func19, Tryd.ntmps19
  go_wp2_with (first
  | (go_at_call 40; (with_reducible refine (HT'.out _ (hsp.on (by repeat' (first | exact Bel.refl _ | with_reducible assumption | refine Bel.trans ?_ (by with_reducible assumption) | refine Bel.alloc ?_ _ | refine Bel.drew ?_ | refine Bel.drewN ?_ _ | refine Bel.set ?_ ?_ _ | (simp; done) | (simp; omega) | omega)))).mono ?_); rintro e w1 ⟨rfl, hb1⟩; have hz1 := hb1.size; (try simp only [World.size_alloc, World.size_setCell, World.size_drew] at hz1); have hk1_0 := hb1.box (w.heap.size) (by first | (simp; done) | (simp; omega) | omega); have hf1_0 := hb1.boxf (w.heap.size) (by first | (simp; done) | (simp; omega) | omega); have hl1_0 : w.heap.size < w1.heap.size := (by omega); have hn1_0 : ¬ w.heap.size = w1.heap.size := (by omega); have hk1_1 := hb1.box (w.heap.size + 1) (by first | (simp; done) | (simp; omega) | omega); have hf1_1 := hb1.boxf (w.heap.size + 1) (by first | (simp; done) | (simp; omega) | omega); have hl1_1 : w.heap.size + 1 < w1.heap.size := (by omega); have hn1_1 : ¬ w.heap.size + 1 = w1.heap.size := (by omega); (try simp only [VVal.val]); have Z1 := Z6.on Z6.new hb1; (try simp only [World.size_alloc] at Z1); have Y1 := Z1; obtain ⟨cc1_0, cc1_1, cc1_2, cc1_3, cc1_4, cc1_5, cf1, cl1⟩ := Y1)
  | (go_at_call 45; (with_reducible refine (HA'.out _).mono ?_); rintro e w2 ⟨rfl, hb2⟩; have hz2 := hb2.size; (try simp only [World.size_alloc, World.size_setCell, World.size_drew] at hz2); have hk2_0 := hb2.box (w.heap.size) (by first | (simp; done) | (simp; omega) | omega); have hf2_0 := hb2.boxf (w.heap.size) (by first | (simp; done) | (simp; omega) | omega); have hl2_0 : w.heap.size < w2.heap.size := (by omega); have hn2_0 : ¬ w.heap.size = w2.heap.size := (by omega); have hk2_1 := hb2.box (w.heap.size + 1) (by first | (simp; done) | (simp; omega) | omega); have hf2_1 := hb2.boxf (w.heap.size + 1) (by first | (simp; done) | (simp; omega) | omega); have hl2_1 : w.heap.size + 1 < w2.heap.size := (by omega); have hn2_1 : ¬ w.heap.size + 1 = w2.heap.size := (by omega); (try simp only [VVal.val]); have Z2 : Z6 w2 _ := Z6.on Z1 (by repeat' (first | with_reducible exact Bel.refl _ | with_reducible assumption | with_reducible refine Bel.set ?_ ?_ _ | with_reducible refine Bel.alloc ?_ _ | with_reducible refine Bel.drew ?_ | with_reducible refine Bel.drewN ?_ _ | with_reducible refine Bel.trans ?_ (by with_reducible assumption) | (simp; done) | (simp; omega) | refine Bel.alloc ?_ _ | refine Bel.drew ?_ | refine Bel.drewN ?_ _ | refine Bel.set ?_ ?_ _)); have Y2 := Z2; obtain ⟨cc2_0, cc2_1, cc2_2, cc2_3, cc2_4, cc2_5, cf2, cl2⟩ := Y2))
  all_goals (refine gen_ret6 Z2 fun wz d0 d1 d2 d3 d4 d5 hbz => ?_; exact bodyPost_ret (by simp [results, Tryd.results19, d0, d1, d2, d3, d4, d5, go_sem]; try rfl) rfl ⟨rfl, hbz _ (by repeat' (first | with_reducible exact Bel.refl _ | with_reducible assumption | with_reducible refine Bel.set ?_ ?_ _ | with_reducible refine Bel.alloc ?_ _ | with_reducible refine Bel.drew ?_ | with_reducible refine Bel.drewN ?_ _ | with_reducible refine Bel.trans ?_ (by with_reducible assumption) | (simp; done) | (simp; omega) | refine Bel.alloc ?_ _ | refine Bel.drew ?_ | refine Bel.drewN ?_ _ | refine Bel.set ?_ ?_ _)) (by omega)⟩)

set_option maxHeartbeats 2000000 in
theorem implBV_wb (k n i : Int) (t : ByteArray) (lo hi : Int) (k' n' i' : Int) (t' : ByteArray) (lo' hi' : Int) (op : Int) (s : ByteArray) (hs : ¬ s.toList = []) (HT : ∀ w, Sp w → Calls Tryd.prog 40 #[.int .i64 op] w fun e w' => e = .returned (.string s) ∧ Bel w w') (o1 : 20 ≤ op) (o2 : op ≤ 54) (o3 : ¬ op = 51) (HA : ∀ w, Calls Tryd.prog 45 #[.agg #[.int .i64 k, .int .i64 n, .int .i64 i, .string t, .int .i64 lo, .int .i64 hi]] w fun e w' => e = .returned (.bool true) ∧ Bel w w') (HW : ∀ w, Calls Tryd.prog 45 #[.agg #[.int .i64 k', .int .i64 n', .int .i64 i', .string t', .int .i64 lo', .int .i64 hi']] w fun e w' => e = .returned (.bool false) ∧ Bel w w') (w : World) (hsp : Sp w) (htab : P10 w) :
    Calls Tryd.prog 19 #[.int .i64 op, .agg #[.int .i64 k, .int .i64 n, .int .i64 i, .string t, .int .i64 lo, .int .i64 hi], .agg #[.int .i64 k', .int .i64 n', .int .i64 i', .string t', .int .i64 lo', .int .i64 hi']] w fun e w' => e = .returned (.tuple #[.agg #[.int .i64 0, .int .i64 0, .int .i64 0, .string ByteArray.empty, .int .i64 0, .int .i64 0], .int .i64 (205)]) ∧ Bel w w' := by
  have HT' := hide HT
  clear HT
  have HA' := hide HA
  clear HA
  have HW' := hide HW
  clear HW
  have n1 : s.toList.isEmpty = false := by simpa using hs
  have e3 : (op == 51) = false := by simp [o3]
  clear o3
  go_enter Tryd.func19, Tryd.ntmps19
  go_wp2_with (first
  | (go_at_call 40; (with_reducible refine (HT'.out _ (hsp.on (by repeat' (first | exact Bel.refl _ | with_reducible assumption | refine Bel.trans ?_ (by with_reducible assumption) | refine Bel.alloc ?_ _ | refine Bel.drew ?_ | refine Bel.drewN ?_ _ | refine Bel.set ?_ ?_ _ | (simp; done) | (simp; omega) | omega)))).mono ?_); rintro e w1 ⟨rfl, hb1⟩; have hz1 := hb1.size; (try simp only [World.size_alloc, World.size_setCell, World.size_drew] at hz1); have hk1_0 := hb1.box (w.heap.size) (by first | (simp; done) | (simp; omega) | omega); have hf1_0 := hb1.boxf (w.heap.size) (by first | (simp; done) | (simp; omega) | omega); have hl1_0 : w.heap.size < w1.heap.size := (by omega); have hn1_0 : ¬ w.heap.size = w1.heap.size := (by omega); have hk1_1 := hb1.box (w.heap.size + 1) (by first | (simp; done) | (simp; omega) | omega); have hf1_1 := hb1.boxf (w.heap.size + 1) (by first | (simp; done) | (simp; omega) | omega); have hl1_1 : w.heap.size + 1 < w1.heap.size := (by omega); have hn1_1 : ¬ w.heap.size + 1 = w1.heap.size := (by omega); (try simp only [VVal.val]); have Z1 := Z6.on Z6.new hb1; (try simp only [World.size_alloc] at Z1); have Y1 := Z1; obtain ⟨cc1_0, cc1_1, cc1_2, cc1_3, cc1_4, cc1_5, cf1, cl1⟩ := Y1)
  | (go_at_call 45; (with_reducible refine (HA'.out _).mono ?_); rintro e w2 ⟨rfl, hb2⟩; have hz2 := hb2.size; (try simp only [World.size_alloc, World.size_setCell, World.size_drew] at hz2); have hk2_0 := hb2.box (w.heap.size) (by first | (simp; done) | (simp; omega) | omega); have hf2_0 := hb2.boxf (w.heap.size) (by first | (simp; done) | (simp; omega) | omega); have hl2_0 : w.heap.size < w2.heap.size := (by omega); have hn2_0 : ¬ w.heap.size = w2.heap.size := (by omega); have hk2_1 := hb2.box (w.heap.size + 1) (by first | (simp; done) | (simp; omega) | omega); have hf2_1 := hb2.boxf (w.heap.size + 1) (by first | (simp; done) | (simp; omega) | omega); have hl2_1 : w.heap.size + 1 < w2.heap.size := (by omega); have hn2_1 : ¬ w.heap.size + 1 = w2.heap.size := (by omega); (try simp only [VVal.val]); have Z2 : Z6 w2 _ := Z6.on Z1 (by repeat' (first | with_reducible exact Bel.refl _ | with_reducible assumption | with_reducible refine Bel.set ?_ ?_ _ | with_reducible refine Bel.alloc ?_ _ | with_reducible refine Bel.drew ?_ | with_reducible refine Bel.drewN ?_ _ | with_reducible refine Bel.trans ?_ (by with_reducible assumption) | (simp; done) | (simp; omega) | refine Bel.alloc ?_ _ | refine Bel.drew ?_ | refine Bel.drewN ?_ _ | refine Bel.set ?_ ?_ _)); have Y2 := Z2; obtain ⟨cc2_0, cc2_1, cc2_2, cc2_3, cc2_4, cc2_5, cf2, cl2⟩ := Y2)
  | (go_at_call 45; (with_reducible refine (HW'.out _).mono ?_); rintro e w3 ⟨rfl, hb3⟩; have hz3 := hb3.size; (try simp only [World.size_alloc, World.size_setCell, World.size_drew] at hz3); have hk3_0 := hb3.box (w.heap.size) (by first | (simp; done) | (simp; omega) | omega); have hf3_0 := hb3.boxf (w.heap.size) (by first | (simp; done) | (simp; omega) | omega); have hl3_0 : w.heap.size < w3.heap.size := (by omega); have hn3_0 : ¬ w.heap.size = w3.heap.size := (by omega); have hk3_1 := hb3.box (w.heap.size + 1) (by first | (simp; done) | (simp; omega) | omega); have hf3_1 := hb3.boxf (w.heap.size + 1) (by first | (simp; done) | (simp; omega) | omega); have hl3_1 : w.heap.size + 1 < w3.heap.size := (by omega); have hn3_1 : ¬ w.heap.size + 1 = w3.heap.size := (by omega); (try simp only [VVal.val]); have Z3 : Z6 w3 _ := Z6.on Z2 (by repeat' (first | with_reducible exact Bel.refl _ | with_reducible assumption | with_reducible refine Bel.set ?_ ?_ _ | with_reducible refine Bel.alloc ?_ _ | with_reducible refine Bel.drew ?_ | with_reducible refine Bel.drewN ?_ _ | with_reducible refine Bel.trans ?_ (by with_reducible assumption) | (simp; done) | (simp; omega) | refine Bel.alloc ?_ _ | refine Bel.drew ?_ | refine Bel.drewN ?_ _ | refine Bel.set ?_ ?_ _)); have Y3 := Z3; obtain ⟨cc3_0, cc3_1, cc3_2, cc3_3, cc3_4, cc3_5, cf3, cl3⟩ := Y3))
  all_goals (refine gen_ret6 Z3 fun wz d0 d1 d2 d3 d4 d5 hbz => ?_; exact bodyPost_ret (by simp [results, Tryd.results19, d0, d1, d2, d3, d4, d5, go_sem]; try rfl) rfl ⟨rfl, hbz _ (by repeat' (first | with_reducible exact Bel.refl _ | with_reducible assumption | with_reducible refine Bel.set ?_ ?_ _ | with_reducible refine Bel.alloc ?_ _ | with_reducible refine Bel.drew ?_ | with_reducible refine Bel.drewN ?_ _ | with_reducible refine Bel.trans ?_ (by with_reducible assumption) | (simp; done) | (simp; omega) | refine Bel.alloc ?_ _ | refine Bel.drew ?_ | refine Bel.drewN ?_ _ | refine Bel.set ?_ ?_ _)) (by omega)⟩)

set_option maxHeartbeats 2000000 in
theorem implBV_ok (k n i : Int) (t : ByteArray) (lo hi : Int) (k' n' i' : Int) (t' : ByteArray) (lo' hi' : Int) (op : Int) (s : ByteArray) (hs : ¬ s.toList = []) (HT : ∀ w, Sp w → Calls Tryd.prog 40 #[.int .i64 op] w fun e w' => e = .returned (.string s) ∧ Bel w w') (o1 : 20 ≤ op) (o2 : op ≤ 54) (o3 : ¬ op = 51) (HA : ∀ w, Calls Tryd.prog 45 #[.agg #[.int .i64 k, .int .i64 n, .int .i64 i, .string t, .int .i64 lo, .int .i64 hi]] w fun e w' => e = .returned (.bool true) ∧ Bel w w') (HW : ∀ w, Calls Tryd.prog 45 #[.agg #[.int .i64 k', .int .i64 n', .int .i64 i', .string t', .int .i64 lo', .int .i64 hi']] w fun e w' => e = .returned (.bool true) ∧ Bel w w') (u0 u1 u2 u4 u5 c : Int) (u3 : ByteArray) (HB : ∀ w, P10 w → Calls Tryd.prog 46 #[.int .i64 op, .agg #[.int .i64 k, .int .i64 n, .int .i64 i, .string t, .int .i64 lo, .int .i64 hi], .agg #[.int .i64 k', .int .i64 n', .int .i64 i', .string t', .int .i64 lo', .int .i64 hi']] w fun e w' => e = .returned (.tuple #[.agg #[.int .i64 u0, .int .i64 u1, .int .i64 u2, .string u3, .int .i64 u4, .int .i64 u5], .int .i64 c]) ∧ Bel w w') (w : World) (hsp : Sp w) (htab : P10 w) :
    Calls Tryd.prog 19 #[.int .i64 op, .agg #[.int .i64 k, .int .i64 n, .int .i64 i, .string t, .int .i64 lo, .int .i64 hi], .agg #[.int .i64 k', .int .i64 n', .int .i64 i', .string t', .int .i64 lo', .int .i64 hi']] w fun e w' => e = .returned (.tuple #[.agg #[.int .i64 u0, .int .i64 u1, .int .i64 u2, .string u3, .int .i64 u4, .int .i64 u5], .int .i64 (c)]) ∧ Bel w w' := by
  have HT' := hide HT
  clear HT
  have HA' := hide HA
  clear HA
  have HW' := hide HW
  clear HW
  have HB' := hide HB
  clear HB
  have n1 : s.toList.isEmpty = false := by simpa using hs
  have e3 : (op == 51) = false := by simp [o3]
  clear o3
  go_enter Tryd.func19, Tryd.ntmps19
  go_upto_region 4 with (first
  | (go_at_call 40; (with_reducible refine (HT'.out _ (hsp.on (by repeat' (first | exact Bel.refl _ | with_reducible assumption | refine Bel.trans ?_ (by with_reducible assumption) | refine Bel.alloc ?_ _ | refine Bel.drew ?_ | refine Bel.drewN ?_ _ | refine Bel.set ?_ ?_ _ | (simp; done) | (simp; omega) | omega)))).mono ?_); rintro e w1 ⟨rfl, hb1⟩; have hz1 := hb1.size; (try simp only [World.size_alloc, World.size_setCell, World.size_drew] at hz1); have hk1_0 := hb1.box (w.heap.size) (by first | (simp; done) | (simp; omega) | omega); have hf1_0 := hb1.boxf (w.heap.size) (by first | (simp; done) | (simp; omega) | omega); have hl1_0 : w.heap.size < w1.heap.size := (by omega); have hn1_0 : ¬ w.heap.size = w1.heap.size := (by omega); have hk1_1 := hb1.box (w.heap.size + 1) (by first | (simp; done) | (simp; omega) | omega); have hf1_1 := hb1.boxf (w.heap.size + 1) (by first | (simp; done) | (simp; omega) | omega); have hl1_1 : w.heap.size + 1 < w1.heap.size := (by omega); have hn1_1 : ¬ w.heap.size + 1 = w1.heap.size := (by omega); (try simp only [VVal.val]); have Z1 := Z6.on Z6.new hb1; (try simp only [World.size_alloc] at Z1); have Y1 := Z1; obtain ⟨cc1_0, cc1_1, cc1_2, cc1_3, cc1_4, cc1_5, cf1, cl1⟩ := Y1)
  | (go_at_call 45; (with_reducible refine (HA'.out _).mono ?_); rintro e w2 ⟨rfl, hb2⟩; have hz2 := hb2.size; (try simp only [World.size_alloc, World.size_setCell, World.size_drew] at hz2); have hk2_0 := hb2.box (w.heap.size) (by first | (simp; done) | (simp; omega) | omega); have hf2_0 := hb2.boxf (w.heap.size) (by first | (simp; done) | (simp; omega) | omega); have hl2_0 : w.heap.size < w2.heap.size := (by omega); have hn2_0 : ¬ w.heap.size = w2.heap.size := (by omega); have hk2_1 := hb2.box (w.heap.size + 1) (by first | (simp; done) | (simp; omega) | omega); have hf2_1 := hb2.boxf (w.heap.size + 1) (by first | (simp; done) | (simp; omega) | omega); have hl2_1 : w.heap.size + 1 < w2.heap.size := (by omega); have hn2_1 : ¬ w.heap.size + 1 = w2.heap.size := (by omega); (try simp only [VVal.val]); have Z2 : Z6 w2 _ := Z6.on Z1 (by repeat' (first | with_reducible exact Bel.refl _ | with_reducible assumption | with_reducible refine Bel.set ?_ ?_ _ | with_reducible refine Bel.alloc ?_ _ | with_reducible refine Bel.drew ?_ | with_reducible refine Bel.drewN ?_ _ | with_reducible refine Bel.trans ?_ (by with_reducible assumption) | (simp; done) | (simp; omega) | refine Bel.alloc ?_ _ | refine Bel.drew ?_ | refine Bel.drewN ?_ _ | refine Bel.set ?_ ?_ _)); have Y2 := Z2; obtain ⟨cc2_0, cc2_1, cc2_2, cc2_3, cc2_4, cc2_5, cf2, cl2⟩ := Y2)
  | (go_at_call 45; (with_reducible refine (HW'.out _).mono ?_); rintro e w3 ⟨rfl, hb3⟩; have hz3 := hb3.size; (try simp only [World.size_alloc, World.size_setCell, World.size_drew] at hz3); have hk3_0 := hb3.box (w.heap.size) (by first | (simp; done) | (simp; omega) | omega); have hf3_0 := hb3.boxf (w.heap.size) (by first | (simp; done) | (simp; omega) | omega); have hl3_0 : w.heap.size < w3.heap.size := (by omega); have hn3_0 : ¬ w.heap.size = w3.heap.size := (by omega); have hk3_1 := hb3.box (w.heap.size + 1) (by first | (simp; done) | (simp; omega) | omega); have hf3_1 := hb3.boxf (w.heap.size + 1) (by first | (simp; done) | (simp; omega) | omega); have hl3_1 : w.heap.size + 1 < w3.heap.size := (by omega); have hn3_1 : ¬ w.heap.size + 1 = w3.heap.size := (by omega); (try simp only [VVal.val]); have Z3 : Z6 w3 _ := Z6.on Z2 (by repeat' (first | with_reducible exact Bel.refl _ | with_reducible assumption | with_reducible refine Bel.set ?_ ?_ _ | with_reducible refine Bel.alloc ?_ _ | with_reducible refine Bel.drew ?_ | with_reducible refine Bel.drewN ?_ _ | with_reducible refine Bel.trans ?_ (by with_reducible assumption) | (simp; done) | (simp; omega) | refine Bel.alloc ?_ _ | refine Bel.drew ?_ | refine Bel.drewN ?_ _ | refine Bel.set ?_ ?_ _)); have Y3 := Z3; obtain ⟨cc3_0, cc3_1, cc3_2, cc3_3, cc3_4, cc3_5, cf3, cl3⟩ := Y3)
  | (go_at_call 46; (with_reducible refine (HB'.out _ (htab.on (by repeat' (first | exact Bel.refl _ | with_reducible assumption | refine Bel.trans ?_ (by with_reducible assumption) | refine Bel.alloc ?_ _ | refine Bel.drew ?_ | refine Bel.drewN ?_ _ | refine Bel.set ?_ ?_ _ | (simp; done) | (simp; omega) | omega)))).mono ?_); rintro e w4 ⟨rfl, hb4⟩; have hz4 := hb4.size; (try simp only [World.size_alloc, World.size_setCell, World.size_drew] at hz4); have hk4_0 := hb4.box (w.heap.size) (by first | (simp; done) | (simp; omega) | omega); have hf4_0 := hb4.boxf (w.heap.size) (by first | (simp; done) | (simp; omega) | omega); have hl4_0 : w.heap.size < w4.heap.size := (by omega); have hn4_0 : ¬ w.heap.size = w4.heap.size := (by omega); have hk4_1 := hb4.box (w.heap.size + 1) (by first | (simp; done) | (simp; omega) | omega); have hf4_1 := hb4.boxf (w.heap.size + 1) (by first | (simp; done) | (simp; omega) | omega); have hl4_1 : w.heap.size + 1 < w4.heap.size := (by omega); have hn4_1 : ¬ w.heap.size + 1 = w4.heap.size := (by omega); (try simp only [VVal.val]); have Z4 : Z6 w4 _ := Z6.on Z3 (by repeat' (first | with_reducible exact Bel.refl _ | with_reducible assumption | with_reducible refine Bel.set ?_ ?_ _ | with_reducible refine Bel.alloc ?_ _ | with_reducible refine Bel.drew ?_ | with_reducible refine Bel.drewN ?_ _ | with_reducible refine Bel.trans ?_ (by with_reducible assumption) | (simp; done) | (simp; omega) | refine Bel.alloc ?_ _ | refine Bel.drew ?_ | refine Bel.drewN ?_ _ | refine Bel.set ?_ ?_ _)); have Y4 := Z4; obtain ⟨cc4_0, cc4_1, cc4_2, cc4_3, cc4_4, cc4_5, cf4, cl4⟩ := Y4))
  refine gen_world1 fun w5 hb5 => ?_
  have q := Six.new hb5
  have Z := Z4.on (Bel.trans (by repeat' (first | with_reducible exact Bel.refl _ | with_reducible assumption | with_reducible refine Bel.set ?_ ?_ _ | with_reducible refine Bel.alloc ?_ _ | with_reducible refine Bel.drew ?_ | with_reducible refine Bel.drewN ?_ _ | with_reducible refine Bel.trans ?_ (by with_reducible assumption) | (simp; done) | (simp; omega) | refine Bel.alloc ?_ _ | refine Bel.drew ?_ | refine Bel.drewN ?_ _ | refine Bel.set ?_ ?_ _)) hb5)
  have b0 : Bel w w5 := Bel.trans (by repeat' (first | with_reducible exact Bel.refl _ | with_reducible assumption | with_reducible refine Bel.set ?_ ?_ _ | with_reducible refine Bel.alloc ?_ _ | with_reducible refine Bel.drew ?_ | with_reducible refine Bel.drewN ?_ _ | with_reducible refine Bel.trans ?_ (by with_reducible assumption) | (simp; done) | (simp; omega) | refine Bel.alloc ?_ _ | refine Bel.drew ?_ | refine Bel.drewN ?_ _ | refine Bel.set ?_ ?_ _)) hb5
  have hq : w.heap.size + 1 + 1 < w4.heap.size := cl4
  have Z' := Z
  obtain ⟨k0, k1, k2, k3, k4, k5, f, l⟩ := Z'
  obtain ⟨q0, q1, q2, q3, q4, q5⟩ := q
  clear hb1 hb2 hb3 hb4 hb5 Z1 Z2 Z3 Z4 hz1 hz2 hz3 hz4
  go_wp2_with (fail)
  all_goals (refine gen_ret6 Z fun wz d0 d1 d2 d3 d4 d5 hbz => ?_; exact bodyPost_ret (by simp [results, Tryd.results19, d0, d1, d2, d3, d4, d5, go_sem]; try rfl) rfl ⟨rfl, hbz _ (by repeat' (first | with_reducible exact Bel.refl _ | with_reducible assumption | with_reducible refine Bel.set ?_ ?_ _ | with_reducible refine Bel.alloc ?_ _ | with_reducible refine Bel.drew ?_ | with_reducible refine Bel.drewN ?_ _ | with_reducible refine Bel.trans ?_ (by with_reducible assumption) | (simp; done) | (simp; omega) | refine Bel.alloc ?_ _ | refine Bel.drew ?_ | refine Bel.drewN ?_ _ | refine Bel.set ?_ ?_ _)) (by omega)⟩)

/-- BinaryValue. -/
def bivR (op : Int) (a b : VVal) : VVal × Int :=
  if opT op = ByteArray.empty ∨ op < 20 ∨ 54 < op ∨ op = 51 ∨ wellB a = false ∨ wellB b = false then (VVal.zero, 205) else binR op a b
theorem ne_list {s : ByteArray} (h : ¬ s = ByteArray.empty) : ¬ s.toList = [] := fun e => h ((ba_eq s ByteArray.empty).1 (e.trans (by decide +kernel)))

theorem specBinaryValue_any (op : Int) (a b : VVal) (w : World) (ha : a.Ok) (hb : b.Ok) :
    Calls Tryd.prog 17 #[.int .i64 op, a.val, b.val] w fun e w' => e = .returned (.tuple #[(bivR op a b).1.val, .int .i64 (bivR op a b).2]) ∧ Bel w w' := by
  have HT := fun w => specOperatorText_any op w
  by_cases hs : opT op = ByteArray.empty
  · rw [show bivR op a b = (VVal.zero, 205) by unfold bivR; rw [if_pos (.inl hs)]]
    rw [hs] at HT
    exact specBV_t0 a.k a.n a.i a.t a.lo a.hi b.k b.n b.i b.t b.lo b.hi op HT  w
  by_cases o1 : op < 20
  · rw [show bivR op a b = (VVal.zero, 205) by unfold bivR; rw [if_pos (.inr (.inl o1))]]
    exact specBV_lo a.k a.n a.i a.t a.lo a.hi b.k b.n b.i b.t b.lo b.hi op _ (ne_list hs) HT o1 w
  by_cases o2 : 54 < op
  · rw [show bivR op a b = (VVal.zero, 205) by unfold bivR; rw [if_pos (.inr (.inr (.inl o2)))]]
    exact specBV_hi a.k a.n a.i a.t a.lo a.hi b.k b.n b.i b.t b.lo b.hi op _ (ne_list hs) HT o2 w
  by_cases o3 : op = 51
  · rw [show bivR op a b = (VVal.zero, 205) by unfold bivR; rw [if_pos (.inr (.inr (.inr (.inl o3))))]]
    exact specBV_51 a.k a.n a.i a.t a.lo a.hi b.k b.n b.i b.t b.lo b.hi op _ (ne_list hs) HT o3 w
  have HA := fun w => specIsWellFormed_any a w ha
  have HW := fun w => specIsWellFormed_any b w hb
  cases wa : wellB a
  · rw [show bivR op a b = (VVal.zero, 205) by unfold bivR; rw [if_pos (.inr (.inr (.inr (.inr (.inl wa)))))]]
    rw [wa] at HA
    exact specBV_wa a.k a.n a.i a.t a.lo a.hi b.k b.n b.i b.t b.lo b.hi op _ (ne_list hs) HT (by omega) (by omega) o3 HA w
  rw [wa] at HA
  cases wb : wellB b
  · rw [show bivR op a b = (VVal.zero, 205) by unfold bivR; rw [if_pos (.inr (.inr (.inr (.inr (.inr wb)))))]]
    rw [wb] at HW
    exact specBV_wb a.k a.n a.i a.t a.lo a.hi b.k b.n b.i b.t b.lo b.hi op _ (ne_list hs) HT (by omega) (by omega) o3 HA HW w
  rw [wb] at HW
  rw [show bivR op a b = binR op a b by unfold bivR; rw [if_neg (by rintro (h | h | h | h | h | h) <;> first | exact hs h | exact o1 h | exact o2 h | exact o3 h | (rw [wa] at h; cases h) | (rw [wb] at h; cases h))]]
  exact specBV_ok a.k a.n a.i a.t a.lo a.hi b.k b.n b.i b.t b.lo b.hi op _ (ne_list hs) HT (by omega) (by omega) o3 HA HW _ _ _ _ _ _ _ (fun w => specBinary_any op a b w ha hb (op_named (by omega) (by omega) o3 hs) (ti_in wa) (ti_in wb)) w

theorem implBinaryValue_any (op : Int) (a b : VVal) (w : World) (ha : a.Ok) (hb : b.Ok) (hsp : Sp w) (htab : P10 w) :
    Calls Tryd.prog 19 #[.int .i64 op, a.val, b.val] w fun e w' => e = .returned (.tuple #[(bivR op a b).1.val, .int .i64 (bivR op a b).2]) ∧ Bel w w' := by
  have HT := fun w h => implOperatorText_any op w h
  by_cases o1 : op < 20
  · rw [show bivR op a b = (VVal.zero, 205) by unfold bivR; rw [if_pos (.inr (.inl o1))]]
    exact implBV_lo a.k a.n a.i a.t a.lo a.hi b.k b.n b.i b.t b.lo b.hi op  o1 w hsp htab
  by_cases o2 : 54 < op
  · rw [show bivR op a b = (VVal.zero, 205) by unfold bivR; rw [if_pos (.inr (.inr (.inl o2)))]]
    exact implBV_hi a.k a.n a.i a.t a.lo a.hi b.k b.n b.i b.t b.lo b.hi op  o2 w hsp htab
  by_cases o3 : op = 51
  · rw [show bivR op a b = (VVal.zero, 205) by unfold bivR; rw [if_pos (.inr (.inr (.inr (.inl o3))))]]
    exact implBV_51 a.k a.n a.i a.t a.lo a.hi b.k b.n b.i b.t b.lo b.hi op  o3 w hsp htab
  by_cases hs : opT op = ByteArray.empty
  · rw [show bivR op a b = (VVal.zero, 205) by unfold bivR; rw [if_pos (.inl hs)]]
    rw [hs] at HT
    exact implBV_t0 a.k a.n a.i a.t a.lo a.hi b.k b.n b.i b.t b.lo b.hi op HT (by omega) (by omega) o3 w hsp htab
  have HA := fun w => implIsWellFormed_any a w ha
  have HW := fun w => implIsWellFormed_any b w hb
  cases wa : wellB a
  · rw [show bivR op a b = (VVal.zero, 205) by unfold bivR; rw [if_pos (.inr (.inr (.inr (.inr (.inl wa)))))]]
    rw [wa] at HA
    exact implBV_wa a.k a.n a.i a.t a.lo a.hi b.k b.n b.i b.t b.lo b.hi op _ (ne_list hs) HT (by omega) (by omega) o3 HA w hsp htab
  rw [wa] at HA
  cases wb : wellB b
  · rw [show bivR op a b = (VVal.zero, 205) by unfold bivR; rw [if_pos (.inr (.inr (.inr (.inr (.inr wb)))))]]
    rw [wb] at HW
    exact implBV_wb a.k a.n a.i a.t a.lo a.hi b.k b.n b.i b.t b.lo b.hi op _ (ne_list hs) HT (by omega) (by omega) o3 HA HW w hsp htab
  rw [wb] at HW
  rw [show bivR op a b = binR op a b by unfold bivR; rw [if_neg (by rintro (h | h | h | h | h | h) <;> first | exact hs h | exact o1 h | exact o2 h | exact o3 h | (rw [wa] at h; cases h) | (rw [wb] at h; cases h))]]
  exact implBV_ok a.k a.n a.i a.t a.lo a.hi b.k b.n b.i b.t b.lo b.hi op _ (ne_list hs) HT (by omega) (by omega) o3 HA HW _ _ _ _ _ _ _ (fun w h => implBinary_any op a b w ha hb h (op_named (by omega) (by omega) o3 hs) (ti_in wa) (ti_in wb) (tt_half wa ha) (tt_half wb hb)) w hsp htab

end Go.Proofs.YtmikipcfepgogaaDoor
