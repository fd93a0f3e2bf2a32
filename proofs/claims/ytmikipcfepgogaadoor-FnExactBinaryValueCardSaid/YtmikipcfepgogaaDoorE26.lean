/- BinaryValue, both sides: the operators told apart, and the arguments that it refuses. -/
import Derived.Test.YtmikipcfepgogaaDoorE24
import Derived.Test.YtmikipcfepgogaaDoorE25
namespace Go.Proofs.YtmikipcfepgogaaDoor
set_option linter.unusedVariables false
set_option linter.unusedSimpArgs false
set_option maxRecDepth 100000
open Go.RowKit

theorem tt_half {v : VVal} (hw : wellB v = true) (hv : v.Ok) : (ttT v).size ≤ 9223372036854775806 / 2 := by
  unfold ttT
  split
  · have hn := hv.n
    unfold InI at hn
    have h1 : (Lib.decDigits v.n.natAbs).length ≤ 20 := by
      rw [Lib.decDigits_length]
      exact nDig_le 19 _ (by omega)
    have h2 : (Lib.decDigits v.n.toNat).length ≤ 20 := by
      rw [Lib.decDigits_length]
      exact nDig_le 19 _ (by omega)
    show (Lib.itoa v.n).toArray.size ≤ _
    unfold Lib.itoa
    split
    · simp; omega
    · simp; omega
  split
  · rename_i h1 h2
    unfold wellB at hw
    simp [h2] at hw
    omega
  split
  · rename_i h3
    omega
  · decide
set_option maxHeartbeats 1000000 in
theorem specBin_num (op : Int) (o1 : 20 ≤ op) (o2 : op ≤ 35) (a b r : VVal) (c : Int) (w : World)
    (HC : ∀ w, Calls Tryd.prog 57 #[.int .i64 op, a.val, b.val] w fun e w' => e = .returned (.tuple #[r.val, .int .i64 c]) ∧ Bel w w') :
    Calls Tryd.prog 44 #[.int .i64 op, a.val, b.val] w fun e w' => e = .returned (.tuple #[r.val, .int .i64 c]) ∧ Bel w w' := by
  obtain ⟨k, n, i, t, lo, hi⟩ := a
  obtain ⟨k', n', i', t', lo', hi'⟩ := b
  obtain ⟨r0, r1, r2, r3, r4, r5⟩ := r
  simp only [VVal.val] at HC ⊢
  replace HC := hide HC
  go_enter Tryd.func44, Tryd.ntmps44
  go_wp2_with ((go_at_call 57; (with_reducible refine (HC.out _).mono ?_); rintro e w1 ⟨rfl, hb1⟩; have hz1 := hb1.size; (try simp only [World.size_alloc, World.size_setCell, World.size_drew] at hz1); have hk1_0 := hb1.box (w.heap.size) (by first | (simp; done) | (simp; omega) | omega); have hf1_0 := hb1.boxf (w.heap.size) (by first | (simp; done) | (simp; omega) | omega); have hl1_0 : w.heap.size < w1.heap.size := (by omega); have hn1_0 : ¬ w.heap.size = w1.heap.size := (by omega); have hk1_1 := hb1.box (w.heap.size + 1) (by first | (simp; done) | (simp; omega) | omega); have hf1_1 := hb1.boxf (w.heap.size + 1) (by first | (simp; done) | (simp; omega) | omega); have hl1_1 : w.heap.size + 1 < w1.heap.size := (by omega); have hn1_1 : ¬ w.heap.size + 1 = w1.heap.size := (by omega); (try simp only [VVal.val]); have Z1 := Z6.on Z6.new hb1; (try simp only [World.size_alloc] at Z1); have Y1 := Z1; obtain ⟨cc1_0, cc1_1, cc1_2, cc1_3, cc1_4, cc1_5, cf1, cl1⟩ := Y1))
  all_goals (refine gen_ret6 Z1 fun wz d0 d1 d2 d3 d4 d5 hbz => ?_; exact bodyPost_ret (by simp [results, Tryd.results44, d0, d1, d2, d3, d4, d5, go_sem]; try rfl) rfl ⟨rfl, hbz _ (by repeat' (first | with_reducible exact Bel.refl _ | with_reducible assumption | with_reducible refine Bel.set ?_ ?_ _ | with_reducible refine Bel.alloc ?_ _ | with_reducible refine Bel.drew ?_ | with_reducible refine Bel.drewN ?_ _ | with_reducible refine Bel.trans ?_ (by with_reducible assumption) | (simp; done) | (simp; omega) | refine Bel.alloc ?_ _ | refine Bel.drew ?_ | refine Bel.drewN ?_ _ | refine Bel.set ?_ ?_ _)) (by omega)⟩)
set_option maxHeartbeats 1000000 in
theorem specBin_txt (op : Int) (o1 : 40 ≤ op) (o2 : op ≤ 45) (a b r : VVal) (c : Int) (w : World)
    (HC : ∀ w, Calls Tryd.prog 58 #[.int .i64 op, a.val, b.val] w fun e w' => e = .returned (.tuple #[r.val, .int .i64 c]) ∧ Bel w w') :
    Calls Tryd.prog 44 #[.int .i64 op, a.val, b.val] w fun e w' => e = .returned (.tuple #[r.val, .int .i64 c]) ∧ Bel w w' := by
  obtain ⟨k, n, i, t, lo, hi⟩ := a
  obtain ⟨k', n', i', t', lo', hi'⟩ := b
  obtain ⟨r0, r1, r2, r3, r4, r5⟩ := r
  simp only [VVal.val] at HC ⊢
  replace HC := hide HC
  have e1 : ¬ op ≤ 35 := by omega
  have e2 : (op == 46) = false := by simp; omega
  have e3 : (op == 47) = false := by simp; omega
  go_enter Tryd.func44, Tryd.ntmps44
  go_wp2_with ((go_at_call 58; (with_reducible refine (HC.out _).mono ?_); rintro e w1 ⟨rfl, hb1⟩; have hz1 := hb1.size; (try simp only [World.size_alloc, World.size_setCell, World.size_drew] at hz1); have hk1_0 := hb1.box (w.heap.size) (by first | (simp; done) | (simp; omega) | omega); have hf1_0 := hb1.boxf (w.heap.size) (by first | (simp; done) | (simp; omega) | omega); have hl1_0 : w.heap.size < w1.heap.size := (by omega); have hn1_0 : ¬ w.heap.size = w1.heap.size := (by omega); have hk1_1 := hb1.box (w.heap.size + 1) (by first | (simp; done) | (simp; omega) | omega); have hf1_1 := hb1.boxf (w.heap.size + 1) (by first | (simp; done) | (simp; omega) | omega); have hl1_1 : w.heap.size + 1 < w1.heap.size := (by omega); have hn1_1 : ¬ w.heap.size + 1 = w1.heap.size := (by omega); (try simp only [VVal.val]); have Z1 := Z6.on Z6.new hb1; (try simp only [World.size_alloc] at Z1); have Y1 := Z1; obtain ⟨cc1_0, cc1_1, cc1_2, cc1_3, cc1_4, cc1_5, cf1, cl1⟩ := Y1))
  all_goals (refine gen_ret6 Z1 fun wz d0 d1 d2 d3 d4 d5 hbz => ?_; exact bodyPost_ret (by simp [results, Tryd.results44, d0, d1, d2, d3, d4, d5, go_sem]; try rfl) rfl ⟨rfl, hbz _ (by repeat' (first | with_reducible exact Bel.refl _ | with_reducible assumption | with_reducible refine Bel.set ?_ ?_ _ | with_reducible refine Bel.alloc ?_ _ | with_reducible refine Bel.drew ?_ | with_reducible refine Bel.drewN ?_ _ | with_reducible refine Bel.trans ?_ (by with_reducible assumption) | (simp; done) | (simp; omega) | refine Bel.alloc ?_ _ | refine Bel.drew ?_ | refine Bel.drewN ?_ _ | refine Bel.set ?_ ?_ _)) (by omega)⟩)
set_option maxHeartbeats 1000000 in
theorem specBin_50  (a b r : VVal) (c : Int) (w : World)
    (HC : ∀ w, Calls Tryd.prog 58 #[.int .i64 50, a.val, b.val] w fun e w' => e = .returned (.tuple #[r.val, .int .i64 c]) ∧ Bel w w') :
    Calls Tryd.prog 44 #[.int .i64 50, a.val, b.val] w fun e w' => e = .returned (.tuple #[r.val, .int .i64 c]) ∧ Bel w w' := by
  obtain ⟨k, n, i, t, lo, hi⟩ := a
  obtain ⟨k', n', i', t', lo', hi'⟩ := b
  obtain ⟨r0, r1, r2, r3, r4, r5⟩ := r
  simp only [VVal.val] at HC ⊢
  replace HC := hide HC
  go_enter Tryd.func44, Tryd.ntmps44
  go_wp2_with ((go_at_call 58; (with_reducible refine (HC.out _).mono ?_); rintro e w1 ⟨rfl, hb1⟩; have hz1 := hb1.size; (try simp only [World.size_alloc, World.size_setCell, World.size_drew] at hz1); have hk1_0 := hb1.box (w.heap.size) (by first | (simp; done) | (simp; omega) | omega); have hf1_0 := hb1.boxf (w.heap.size) (by first | (simp; done) | (simp; omega) | omega); have hl1_0 : w.heap.size < w1.heap.size := (by omega); have hn1_0 : ¬ w.heap.size = w1.heap.size := (by omega); have hk1_1 := hb1.box (w.heap.size + 1) (by first | (simp; done) | (simp; omega) | omega); have hf1_1 := hb1.boxf (w.heap.size + 1) (by first | (simp; done) | (simp; omega) | omega); have hl1_1 : w.heap.size + 1 < w1.heap.size := (by omega); have hn1_1 : ¬ w.heap.size + 1 = w1.heap.size := (by omega); (try simp only [VVal.val]); have Z1 := Z6.on Z6.new hb1; (try simp only [World.size_alloc] at Z1); have Y1 := Z1; obtain ⟨cc1_0, cc1_1, cc1_2, cc1_3, cc1_4, cc1_5, cf1, cl1⟩ := Y1))
  all_goals (refine gen_ret6 Z1 fun wz d0 d1 d2 d3 d4 d5 hbz => ?_; exact bodyPost_ret (by simp [results, Tryd.results44, d0, d1, d2, d3, d4, d5, go_sem]; try rfl) rfl ⟨rfl, hbz _ (by repeat' (first | with_reducible exact Bel.refl _ | with_reducible assumption | with_reducible refine Bel.set ?_ ?_ _ | with_reducible refine Bel.alloc ?_ _ | with_reducible refine Bel.drew ?_ | with_reducible refine Bel.drewN ?_ _ | with_reducible refine Bel.trans ?_ (by with_reducible assumption) | (simp; done) | (simp; omega) | refine Bel.alloc ?_ _ | refine Bel.drew ?_ | refine Bel.drewN ?_ _ | refine Bel.set ?_ ?_ _)) (by omega)⟩)
theorem specBinary_any (op : Int) (a b : VVal) (w : World) (ha : a.Ok) (hb : b.Ok) (ho : opNum op ∨ opTxt op ∨ opSet op ∨ opId op) (xa : InM (tiN a)) (xb : InM (tiN b)) :
    Calls Tryd.prog 44 #[.int .i64 op, a.val, b.val] w fun e w' => e = .returned (.tuple #[(binR op a b).1.val, .int .i64 (binR op a b).2]) ∧ Bel w w' := by
  rcases ho with h | h | h | h
  · have h' := h
    unfold opNum at h'
    rw [show binR op a b = numR op a b by unfold binR; rw [if_pos (by omega)]]
    exact specBin_num op (by omega) (by omega) a b _ _ w fun w => specNumbers_any op a b w ha hb h xa xb
  · have h' := h
    unfold opTxt at h'
    rw [show binR op a b = txtR op a b by unfold binR; rw [if_neg (by omega), if_neg (by omega), if_pos (by omega)]]
    rcases h' with g | rfl
    · exact specBin_txt op g.1 g.2 a b _ _ w fun w => specTexts_any op a b w ha hb h
    · exact specBin_50 a b _ _ w fun w => specTexts_any 50 a b w ha hb h
  · have h' := h
    unfold opSet at h'
    rw [show binR op a b = setR op a b by unfold binR; rw [if_neg (by omega), if_neg (by omega), if_neg (by omega)]]
    exact specSets_any op a b w ha hb h
  · rw [show binR op a b = idR op a b by unfold opId at h; unfold binR; rw [if_neg (by omega), if_pos h]]
    rcases h with rfl | rfl
    · exact specId_46 a b w
    · exact specId_47 a b w
theorem implBinary_any (op : Int) (a b : VVal) (w : World) (ha : a.Ok) (hb : b.Ok) (htab : P10 w) (ho : opNum op ∨ opTxt op ∨ opSet op ∨ opId op) (xa : InM (tiN a)) (xb : InM (tiN b)) (sa : (ttT a).size ≤ 9223372036854775806 / 2) (sb : (ttT b).size ≤ 9223372036854775806 / 2) :
    Calls Tryd.prog 46 #[.int .i64 op, a.val, b.val] w fun e w' => e = .returned (.tuple #[(binR op a b).1.val, .int .i64 (binR op a b).2]) ∧ Bel w w' := by
  rcases ho with h | h | h | h
  · have h' := h
    unfold opNum at h'
    rw [show binR op a b = numR op a b by unfold binR; rw [if_pos (by omega)]]
    exact implNumbers_any op a b w ha hb htab h xa xb
  · have h' := h
    unfold opTxt at h'
    rw [show binR op a b = txtR op a b by unfold binR; rw [if_neg (by omega), if_neg (by omega), if_pos (by omega)]]
    exact implTexts_any op a b w ha hb htab h sa sb
  · have h' := h
    unfold opSet at h'
    rw [show binR op a b = setR op a b by unfold binR; rw [if_neg (by omega), if_neg (by omega), if_neg (by omega)]]
    exact implSets_any op a b w ha hb htab h
  · rw [show binR op a b = idR op a b by unfold opId at h; unfold binR; rw [if_neg (by omega), if_pos h]]
    rcases h with rfl | rfl
    · exact implId_46 a b w
    · exact implId_47 a b w

end Go.Proofs.YtmikipcfepgogaaDoor
