/- The walk of FnExactBinaryValue. -/
import Derived.Test.YtmikipcfepgogaaDoorE28
import Derived.Deep.RegionWith
import Derived.Deep.Cut
import Derived.Deep.CutRange
namespace Go.Proofs.YtmikipcfepgogaaDoor
set_option linter.unusedVariables false
set_option linter.unusedSimpArgs false
set_option maxRecDepth 100000
open Go.RowKit

theorem two_boxes {w w2 : World} {t1 t2 : TypeId} {x0 x1 x2 x3 x4 x5 y0 y1 y2 y3 y4 y5 : Value} (h : Bel ((w.alloc (.cells #[x0, x1, x2, x3, x4, x5] t1)).alloc (.cells #[y0, y1, y2, y3, y4, y5] t2)) w2) :
    Six w2 w.heap.size x0 x1 x2 x3 x4 x5 ∧ Six w2 (w.heap.size + 1) y0 y1 y2 y3 y4 y5 ∧ w.heap.size + 1 < w2.heap.size := by
  have h1 := h.box w.heap.size (by simp; omega)
  have h2 := h.box (w.heap.size + 1) (by simp)
  have h3 := h.size
  simp at h3
  refine ⟨⟨?_, ?_, ?_, ?_, ?_, ?_⟩, ⟨?_, ?_, ?_, ?_, ?_, ?_⟩, by omega⟩
  all_goals first | (rw [h1]; simp; done) | (rw [h2]; simp; done)

theorem s12_on {W w w' : World} {b c : Nat} {x0 x1 x2 x3 x4 x5 y0 y1 y2 y3 y4 y5 : Value} (hb : Bel w w') (h : w.cell? ⟨b, 0, none⟩ = some x0 ∧ w.cell? ⟨b, 1, none⟩ = some x1 ∧ w.cell? ⟨b, 2, none⟩ = some x2 ∧ w.cell? ⟨b, 3, none⟩ = some x3 ∧ w.cell? ⟨b, 4, none⟩ = some x4 ∧ w.cell? ⟨b, 5, none⟩ = some x5 ∧ w.cell? ⟨c, 0, none⟩ = some y0 ∧ w.cell? ⟨c, 1, none⟩ = some y1 ∧ w.cell? ⟨c, 2, none⟩ = some y2 ∧ w.cell? ⟨c, 3, none⟩ = some y3 ∧ w.cell? ⟨c, 4, none⟩ = some y4 ∧ w.cell? ⟨c, 5, none⟩ = some y5 ∧ c < w.heap.size ∧ Bel W w) (hbc : b ≤ c) :
    w'.cell? ⟨b, 0, none⟩ = some x0 ∧ w'.cell? ⟨b, 1, none⟩ = some x1 ∧ w'.cell? ⟨b, 2, none⟩ = some x2 ∧ w'.cell? ⟨b, 3, none⟩ = some x3 ∧ w'.cell? ⟨b, 4, none⟩ = some x4 ∧ w'.cell? ⟨b, 5, none⟩ = some x5 ∧ w'.cell? ⟨c, 0, none⟩ = some y0 ∧ w'.cell? ⟨c, 1, none⟩ = some y1 ∧ w'.cell? ⟨c, 2, none⟩ = some y2 ∧ w'.cell? ⟨c, 3, none⟩ = some y3 ∧ w'.cell? ⟨c, 4, none⟩ = some y4 ∧ w'.cell? ⟨c, 5, none⟩ = some y5 ∧ c < w'.heap.size ∧ Bel W w' := by
  obtain ⟨a0, a1, a2, a3, a4, a5, b0, b1, b2, b3, b4, b5, l, hB⟩ := h
  have f := hb.box b (by omega)
  have g := hb.box c l
  exact ⟨(f 0).trans a0, (f 1).trans a1, (f 2).trans a2, (f 3).trans a3, (f 4).trans a4, (f 5).trans a5, (g 0).trans b0, (g 1).trans b1, (g 2).trans b2, (g 3).trans b3, (g 4).trans b4, (g 5).trans b5, Nat.lt_of_lt_of_le l hb.size, hB.trans hb⟩

theorem box_put {W w5 : World} {t : TypeId} {u0 u1 u2 u3 u4 u5 : Value} (h : Bel (W.alloc (.cells #[.int .i64 0, .int .i64 0, .int .i64 0, .string { data := #[] }, .int .i64 0, .int .i64 0] t)) w5) :
    Six ((((((w5.setCell ⟨W.heap.size, 0, none⟩ u0).setCell ⟨W.heap.size, 1, none⟩ u1).setCell ⟨W.heap.size, 2, none⟩ u2).setCell ⟨W.heap.size, 3, none⟩ u3).setCell ⟨W.heap.size, 4, none⟩ u4).setCell ⟨W.heap.size, 5, none⟩ u5) W.heap.size u0 u1 u2 u3 u4 u5 :=
  (Z6.on (Z6.new (w := W) (t := t)) h).put u0 u1 u2 u3 u4 u5
theorem box_putd {W w5 : World} {t : TypeId} {u0 u1 u2 u3 u4 u5 : Value} (h : Bel (W.drew.alloc (.cells #[.int .i64 0, .int .i64 0, .int .i64 0, .string { data := #[] }, .int .i64 0, .int .i64 0] t)) w5) :
    Six ((((((w5.setCell ⟨W.heap.size, 0, none⟩ u0).setCell ⟨W.heap.size, 1, none⟩ u1).setCell ⟨W.heap.size, 2, none⟩ u2).setCell ⟨W.heap.size, 3, none⟩ u3).setCell ⟨W.heap.size, 4, none⟩ u4).setCell ⟨W.heap.size, 5, none⟩ u5) W.heap.size u0 u1 u2 u3 u4 u5 :=
  (Z6.on (Z6.new (w := W.drew) (t := t)) h).put u0 u1 u2 u3 u4 u5
/-- The two arguments' boxes are as they were, and a box more holds six cells. -/
def BoxAt (w w2 : World) (k n i : Int) (t : ByteArray) (lo hi k' n' i' : Int) (t' : ByteArray) (lo' hi' u0 u1 u2 : Int) (u3 : ByteArray) (u4 u5 c : Int) (p cc : Value) (wx : World) : Prop :=
  ∃ g : Nat, p = .pointer (some ⟨g, 0, none⟩) ∧ cc = .int .i64 c ∧ Six wx g (.int .i64 u0) (.int .i64 u1) (.int .i64 u2) (.string u3) (.int .i64 u4) (.int .i64 u5) ∧ w2.heap.size ≤ g ∧ g < wx.heap.size ∧ Bel w2 wx
set_option maxHeartbeats 40000000 in
theorem binlaw_walk (op k n i : Int) (t : ByteArray) (lo hi : Int) (k' n' i' : Int) (t' : ByteArray) (lo' hi' : Int) (w : World) (ht : t.size ≤ maxLen) (ht' : t'.size ≤ maxLen) (htab : Tabs w)
    (u0 u1 u2 u4 u5 c : Int) (u3 : ByteArray)
    (HS : ∀ w, Calls Tryd.prog 17 #[.int .i64 op, .agg #[.int .i64 k, .int .i64 n, .int .i64 i, .string t, .int .i64 lo, .int .i64 hi], .agg #[.int .i64 k', .int .i64 n', .int .i64 i', .string t', .int .i64 lo', .int .i64 hi']] w fun e w' => e = .returned (.tuple #[.agg #[.int .i64 u0, .int .i64 u1, .int .i64 u2, .string u3, .int .i64 u4, .int .i64 u5], .int .i64 c]) ∧ Bel w w')
    (HI : ∀ w, Tabs w → Calls Tryd.prog 19 #[.int .i64 op, .agg #[.int .i64 k, .int .i64 n, .int .i64 i, .string t, .int .i64 lo, .int .i64 hi], .agg #[.int .i64 k', .int .i64 n', .int .i64 i', .string t', .int .i64 lo', .int .i64 hi']] w fun e w' => e = .returned (.tuple #[.agg #[.int .i64 u0, .int .i64 u1, .int .i64 u2, .string u3, .int .i64 u4, .int .i64 u5], .int .i64 c]) ∧ Bel w w') :
    Calls Tryd.prog 5 #[.int .i64 op, .agg #[.int .i64 k, .int .i64 n, .int .i64 i, .string t, .int .i64 lo, .int .i64 hi], .agg #[.int .i64 k', .int .i64 n', .int .i64 i', .string t', .int .i64 lo', .int .i64 hi']] w fun e w' => e = .returned (.bool true) ∧ Bel w w' := by
  have HS' := hide HS
  have HI' := hide HI
  clear HS HI
  rcases Nat.lt_or_ge 1048576 t.size with hs | hs
  · have HZ := hide (szV_no t hs)
    go_enter Tryd.func5, Tryd.ntmps5
    go_wp2_with ((go_at_call 16; refine (szValue_ex k n i t lo hi _ _ (by omega) (by omega) ht).mono ?_; rintro e w1 ⟨rfl, hb1⟩; have hz1 := hb1.size; (try simp only [World.size_alloc, World.size_setCell, World.size_drew] at hz1); have hk1_0 := hb1.box (w.heap.size) (by first | (simp; done) | (simp; omega) | omega); have hf1_0 := hb1.boxf (w.heap.size) (by first | (simp; done) | (simp; omega) | omega); have hl1_0 : w.heap.size < w1.heap.size := (by omega); have hn1_0 : ¬ w.heap.size = w1.heap.size := (by omega); have hk1_1 := hb1.box (w.heap.size + 1) (by first | (simp; done) | (simp; omega) | omega); have hf1_1 := hb1.boxf (w.heap.size + 1) (by first | (simp; done) | (simp; omega) | omega); have hl1_1 : w.heap.size + 1 < w1.heap.size := (by omega); have hn1_1 : ¬ w.heap.size + 1 = w1.heap.size := (by omega); (try simp only [VVal.val])); rw [HZ.out])
    all_goals
      go_returns
      exact ⟨rfl, (by repeat' (first | with_reducible exact Bel.refl _ | with_reducible assumption | with_reducible refine Bel.set ?_ ?_ _ | with_reducible refine Bel.alloc ?_ _ | with_reducible refine Bel.drew ?_ | with_reducible refine Bel.drewN ?_ _ | with_reducible refine Bel.trans ?_ (by with_reducible assumption) | (simp; done) | (simp; omega) | refine Bel.alloc ?_ _ | refine Bel.drew ?_ | refine Bel.drewN ?_ _ | refine Bel.set ?_ ?_ _))⟩
  have HZ := hide (szV_yes t hs)
  rcases Nat.lt_or_ge (1048576 - t.size) t'.size with hs2 | hs2
  · have HZ2 := hide (show szV t' (1048576 - (t.size : Int)) = -1 by unfold szV; rw [if_pos (by omega)])
    go_enter Tryd.func5, Tryd.ntmps5
    go_wp2_with (first
      | ((go_at_call 16; (with_reducible refine (szValue_ex k n i t lo hi _ _ (by omega) (by omega) ht).mono ?_); rintro e w1 ⟨rfl, hb1⟩; have hz1 := hb1.size; (try simp only [World.size_alloc, World.size_setCell, World.size_drew] at hz1); have hk1_0 := hb1.box (w.heap.size) (by first | (simp; done) | (simp; omega) | omega); have hf1_0 := hb1.boxf (w.heap.size) (by first | (simp; done) | (simp; omega) | omega); have hl1_0 : w.heap.size < w1.heap.size := (by omega); have hn1_0 : ¬ w.heap.size = w1.heap.size := (by omega); have hk1_1 := hb1.box (w.heap.size + 1) (by first | (simp; done) | (simp; omega) | omega); have hf1_1 := hb1.boxf (w.heap.size + 1) (by first | (simp; done) | (simp; omega) | omega); have hl1_1 : w.heap.size + 1 < w1.heap.size := (by omega); have hn1_1 : ¬ w.heap.size + 1 = w1.heap.size := (by omega); (try simp only [VVal.val])); rw [HZ.out])
      | ((go_at_call 16; (with_reducible refine (szValue_ex k' n' i' t' lo' hi' _ _ (by omega) (by omega) ht').mono ?_); rintro e w2 ⟨rfl, hb2⟩; have hz2 := hb2.size; (try simp only [World.size_alloc, World.size_setCell, World.size_drew] at hz2); have hk2_0 := hb2.box (w.heap.size) (by first | (simp; done) | (simp; omega) | omega); have hf2_0 := hb2.boxf (w.heap.size) (by first | (simp; done) | (simp; omega) | omega); have hl2_0 : w.heap.size < w2.heap.size := (by omega); have hn2_0 : ¬ w.heap.size = w2.heap.size := (by omega); have hk2_1 := hb2.box (w.heap.size + 1) (by first | (simp; done) | (simp; omega) | omega); have hf2_1 := hb2.boxf (w.heap.size + 1) (by first | (simp; done) | (simp; omega) | omega); have hl2_1 : w.heap.size + 1 < w2.heap.size := (by omega); have hn2_1 : ¬ w.heap.size + 1 = w2.heap.size := (by omega); (try simp only [VVal.val])); rw [HZ2.out]))
    all_goals
      go_returns
      exact ⟨rfl, (by repeat' (first | with_reducible exact Bel.refl _ | with_reducible assumption | with_reducible refine Bel.set ?_ ?_ _ | with_reducible refine Bel.alloc ?_ _ | with_reducible refine Bel.drew ?_ | with_reducible refine Bel.drewN ?_ _ | with_reducible refine Bel.trans ?_ (by with_reducible assumption) | (simp; done) | (simp; omega) | refine Bel.alloc ?_ _ | refine Bel.drew ?_ | refine Bel.drewN ?_ _ | refine Bel.set ?_ ?_ _))⟩
  have HZ2 := hide (show szV t' (1048576 - (t.size : Int)) = 1048576 - (t.size : Int) - t'.size by unfold szV; rw [if_neg (by omega)])
  go_enter Tryd.func5, Tryd.ntmps5
  go_upto_region 8 with (first
    | ((go_at_call 16; (with_reducible refine (szValue_ex k n i t lo hi _ _ (by omega) (by omega) ht).mono ?_); rintro e w1 ⟨rfl, hb1⟩; have hz1 := hb1.size; (try simp only [World.size_alloc, World.size_setCell, World.size_drew] at hz1); have hk1_0 := hb1.box (w.heap.size) (by first | (simp; done) | (simp; omega) | omega); have hf1_0 := hb1.boxf (w.heap.size) (by first | (simp; done) | (simp; omega) | omega); have hl1_0 : w.heap.size < w1.heap.size := (by omega); have hn1_0 : ¬ w.heap.size = w1.heap.size := (by omega); have hk1_1 := hb1.box (w.heap.size + 1) (by first | (simp; done) | (simp; omega) | omega); have hf1_1 := hb1.boxf (w.heap.size + 1) (by first | (simp; done) | (simp; omega) | omega); have hl1_1 : w.heap.size + 1 < w1.heap.size := (by omega); have hn1_1 : ¬ w.heap.size + 1 = w1.heap.size := (by omega); (try simp only [VVal.val])); rw [HZ.out])
    | ((go_at_call 16; (with_reducible refine (szValue_ex k' n' i' t' lo' hi' _ _ (by omega) (by omega) ht').mono ?_); rintro e w2 ⟨rfl, hb2⟩; have hz2 := hb2.size; (try simp only [World.size_alloc, World.size_setCell, World.size_drew] at hz2); have hk2_0 := hb2.box (w.heap.size) (by first | (simp; done) | (simp; omega) | omega); have hf2_0 := hb2.boxf (w.heap.size) (by first | (simp; done) | (simp; omega) | omega); have hl2_0 : w.heap.size < w2.heap.size := (by omega); have hn2_0 : ¬ w.heap.size = w2.heap.size := (by omega); have hk2_1 := hb2.box (w.heap.size + 1) (by first | (simp; done) | (simp; omega) | omega); have hf2_1 := hb2.boxf (w.heap.size + 1) (by first | (simp; done) | (simp; omega) | omega); have hl2_1 : w.heap.size + 1 < w2.heap.size := (by omega); have hn2_1 : ¬ w.heap.size + 1 = w2.heap.size := (by omega); (try simp only [VVal.val])); rw [HZ2.out]))
  have hAB := hb1.trans hb2
  obtain ⟨⟨a0, a1, a2, a3, a4, a5⟩, ⟨b0, b1, b2, b3, b4, b5⟩, l1⟩ := two_boxes hAB
  have hbw : Bel w w2 := Bel.trans (by repeat' (first | with_reducible exact Bel.refl _ | with_reducible assumption | with_reducible refine Bel.set ?_ ?_ _ | with_reducible refine Bel.alloc ?_ _ | with_reducible refine Bel.drew ?_ | with_reducible refine Bel.drewN ?_ _ | with_reducible refine Bel.trans ?_ (by with_reducible assumption) | (simp; done) | (simp; omega) | refine Bel.alloc ?_ _ | refine Bel.drew ?_ | refine Bel.drewN ?_ _ | refine Bel.set ?_ ?_ _)) hAB
  clear hb1 hb2 hAB hz1 hk1_0 hf1_0 hl1_0 hn1_0 hk1_1 hf1_1 hl1_1 hn1_1 hz2 hk2_0 hf2_0 hl2_0 hn2_0 hk2_1 hf2_1 hl2_1 hn2_1
  have l0 : w.heap.size < w2.heap.size := by omega
  have n0 : ¬ w.heap.size = w2.heap.size := by omega
  have n1 : ¬ w.heap.size + 1 = w2.heap.size := by omega
  have htab' := hide htab
  clear HZ HZ2 hs hs2 ht ht' htab
  go_cut [8, 9] from 22 to 30 (fun p cc wx => BoxAt w w2 k n i t lo hi k' n' i' t' lo' hi' u0 u1 u2 u3 u4 u5 c p cc wx)
  case first =>
    go_region_with (first
      | ((with_reducible refine (toValue_ex k n i t lo hi _).mono ?_); rintro e w3 ⟨rfl, hb3⟩; have hz3 := hb3.size; have kk3 : Bel w2 w3 := (by repeat' (first | with_reducible exact Bel.refl _ | with_reducible assumption | with_reducible refine Bel.set ?_ ?_ _ | with_reducible refine Bel.alloc ?_ _ | with_reducible refine Bel.drew ?_ | with_reducible refine Bel.drewN ?_ _ | with_reducible refine Bel.trans ?_ (by with_reducible assumption) | (simp; done) | (simp; omega) | refine Bel.alloc ?_ _ | refine Bel.drew ?_ | refine Bel.drewN ?_ _ | refine Bel.set ?_ ?_ _)); (try have zz3_2 : Z6 w3 w2.heap.size := Z6.on (Z6.new (w := w2.drew)) hb3); (try simp only [World.size_alloc, World.size_drew, World.size_setCell] at hz3); have p3_0 := hb3.box (w.heap.size) (by first | omega | (simp; omega) | (simp; done)); have s3_0 : w.heap.size < w3.heap.size := (by omega); have n3_0 : ¬ w.heap.size = w3.heap.size := (by omega); have p3_1 := hb3.box (w.heap.size + 1) (by first | omega | (simp; omega) | (simp; done)); have s3_1 : w.heap.size + 1 < w3.heap.size := (by omega); have n3_1 : ¬ w.heap.size + 1 = w3.heap.size := (by omega); (try (have r3_w2 := hb3.box (w2.heap.size) (by first | omega | (simp; omega) | (simp; done)); have v3_w2 := hb3.boxf (w2.heap.size) (by first | omega | (simp; omega) | (simp; done)); have x3_w2 : w2.heap.size < w3.heap.size := (by omega))))
      | ((with_reducible refine (toValue_ex k' n' i' t' lo' hi' _).mono ?_); rintro e w4 ⟨rfl, hb4⟩; have hz4 := hb4.size; have kk4 : Bel w2 w4 := (by repeat' (first | with_reducible exact Bel.refl _ | with_reducible assumption | with_reducible refine Bel.set ?_ ?_ _ | with_reducible refine Bel.alloc ?_ _ | with_reducible refine Bel.drew ?_ | with_reducible refine Bel.drewN ?_ _ | with_reducible refine Bel.trans ?_ (by with_reducible assumption) | (simp; done) | (simp; omega) | refine Bel.alloc ?_ _ | refine Bel.drew ?_ | refine Bel.drewN ?_ _ | refine Bel.set ?_ ?_ _)); (try have zz4_3 : Z6 w4 w3.heap.size := Z6.on (Z6.new (w := w3)) hb4); (try have zz4_2 : Z6 w4 w2.heap.size := zz3_2.on hb4); (try simp only [World.size_alloc, World.size_drew, World.size_setCell] at hz4); have p4_0 := hb4.box (w.heap.size) (by first | omega | (simp; omega) | (simp; done)); have s4_0 : w.heap.size < w4.heap.size := (by omega); have n4_0 : ¬ w.heap.size = w4.heap.size := (by omega); have p4_1 := hb4.box (w.heap.size + 1) (by first | omega | (simp; omega) | (simp; done)); have s4_1 : w.heap.size + 1 < w4.heap.size := (by omega); have n4_1 : ¬ w.heap.size + 1 = w4.heap.size := (by omega); (try (have r4_w2 := hb4.box (w2.heap.size) (by first | omega | (simp; omega) | (simp; done)); have v4_w2 := hb4.boxf (w2.heap.size) (by first | omega | (simp; omega) | (simp; done)); have x4_w2 : w2.heap.size < w4.heap.size := (by omega))); (try (have r4_w3 := hb4.box (w3.heap.size) (by first | omega | (simp; omega) | (simp; done)); have v4_w3 := hb4.boxf (w3.heap.size) (by first | omega | (simp; omega) | (simp; done)); have x4_w3 : w3.heap.size < w4.heap.size := (by omega))))
      | ((with_reducible refine (HS'.out _).mono ?_); rintro e w5 ⟨rfl, hb5⟩; have hz5 := hb5.size; have kk5 : Bel w2 w5 := (by repeat' (first | with_reducible exact Bel.refl _ | with_reducible assumption | with_reducible refine Bel.set ?_ ?_ _ | with_reducible refine Bel.alloc ?_ _ | with_reducible refine Bel.drew ?_ | with_reducible refine Bel.drewN ?_ _ | with_reducible refine Bel.trans ?_ (by with_reducible assumption) | (simp; done) | (simp; omega) | refine Bel.alloc ?_ _ | refine Bel.drew ?_ | refine Bel.drewN ?_ _ | refine Bel.set ?_ ?_ _)); (try have zz5_4 : Z6 w5 w4.heap.size := Z6.on (Z6.new (w := w4)) hb5); (try have zz5_3 : Z6 w5 w3.heap.size := zz4_3.on hb5); (try have zz5_2 : Z6 w5 w2.heap.size := zz4_2.on hb5); (try simp only [World.size_alloc, World.size_drew, World.size_setCell] at hz5); have p5_0 := hb5.box (w.heap.size) (by first | omega | (simp; omega) | (simp; done)); have s5_0 : w.heap.size < w5.heap.size := (by omega); have n5_0 : ¬ w.heap.size = w5.heap.size := (by omega); have p5_1 := hb5.box (w.heap.size + 1) (by first | omega | (simp; omega) | (simp; done)); have s5_1 : w.heap.size + 1 < w5.heap.size := (by omega); have n5_1 : ¬ w.heap.size + 1 = w5.heap.size := (by omega); (try (have r5_w2 := hb5.box (w2.heap.size) (by first | omega | (simp; omega) | (simp; done)); have v5_w2 := hb5.boxf (w2.heap.size) (by first | omega | (simp; omega) | (simp; done)); have x5_w2 : w2.heap.size < w5.heap.size := (by omega))); (try (have r5_w3 := hb5.box (w3.heap.size) (by first | omega | (simp; omega) | (simp; done)); have v5_w3 := hb5.boxf (w3.heap.size) (by first | omega | (simp; omega) | (simp; done)); have x5_w3 : w3.heap.size < w5.heap.size := (by omega))); (try (have r5_w4 := hb5.box (w4.heap.size) (by first | omega | (simp; omega) | (simp; done)); have v5_w4 := hb5.boxf (w4.heap.size) (by first | omega | (simp; omega) | (simp; done)); have x5_w4 : w4.heap.size < w5.heap.size := (by omega)))))
    all_goals (try go_wp2_with (fail))
    all_goals go_meet
    all_goals
      first
        | exact ⟨_, rfl, rfl, zz5_4.put _ _ _ _ _ _, (by omega), (by simp; omega), Bel.put6 kk5 (by omega) _ _ _ _ _ _⟩
        | exact ⟨_, rfl, rfl, zz5_3.put _ _ _ _ _ _, (by omega), (by simp; omega), Bel.put6 kk5 (by omega) _ _ _ _ _ _⟩
        | exact ⟨_, rfl, rfl, zz5_2.put _ _ _ _ _ _, (by omega), (by simp; omega), Bel.put6 kk5 (by omega) _ _ _ _ _ _⟩
        | exact ⟨_, rfl, rfl, Six.new (Bel.refl _), (by omega), (by simp), kk5.alloc _⟩
  case rest =>
    obtain ⟨g, rfl, rfl, S, g1, g2, hbc⟩ := hcut
    have hbw' := hbw.trans hbc
    have q0 := hbc.box w.heap.size (by omega)
    have q1 := hbc.box (w.heap.size + 1) (by omega)
    replace a0 := (q0 0).trans a0
    replace a1 := (q0 1).trans a1
    replace a2 := (q0 2).trans a2
    replace a3 := (q0 3).trans a3
    replace a4 := (q0 4).trans a4
    replace a5 := (q0 5).trans a5
    replace b0 := (q1 0).trans b0
    replace b1 := (q1 1).trans b1
    replace b2 := (q1 2).trans b2
    replace b3 := (q1 3).trans b3
    replace b4 := (q1 4).trans b4
    replace b5 := (q1 5).trans b5
    have lg := hbc.size
    have l0' : w.heap.size < wc.heap.size := by omega
    have l1' : w.heap.size + 1 < wc.heap.size := by omega
    have n0' : ¬ w.heap.size = wc.heap.size := by omega
    have n1' : ¬ w.heap.size + 1 = wc.heap.size := by omega
    have hg0 : w.heap.size ≤ g := by omega
    clear q0 q1 lg l0 n0 n1 l1 hbc hbw g1
    have hbw := hbw'
    clear hbw'
    obtain ⟨w2, rfl⟩ : ∃ x : World, x = wc := ⟨_, rfl⟩
    have S' := hide S
    clear S
    go_upto_region 9 with (fail)
    go_cut [10, 11] from 31 to 39 (fun p cc wx => BoxAt w w2 k n i t lo hi k' n' i' t' lo' hi' u0 u1 u2 u3 u4 u5 c p cc wx)
    case first =>
      go_region_with (first
        | ((with_reducible refine (toValue_ex k n i t lo hi _).mono ?_); rintro e w3 ⟨rfl, hb3⟩; have hz3 := hb3.size; have kk3 : Bel w2 w3 := (by repeat' (first | with_reducible exact Bel.refl _ | with_reducible assumption | with_reducible refine Bel.set ?_ ?_ _ | with_reducible refine Bel.alloc ?_ _ | with_reducible refine Bel.drew ?_ | with_reducible refine Bel.drewN ?_ _ | with_reducible refine Bel.trans ?_ (by with_reducible assumption) | (simp; done) | (simp; omega) | refine Bel.alloc ?_ _ | refine Bel.drew ?_ | refine Bel.drewN ?_ _ | refine Bel.set ?_ ?_ _)); (try have zz3_2 : Z6 w3 w2.heap.size := Z6.on (Z6.new (w := w2.drew)) hb3); (try simp only [World.size_alloc, World.size_drew, World.size_setCell] at hz3); have p3_0 := hb3.box (w.heap.size) (by first | omega | (simp; omega) | (simp; done)); have s3_0 : w.heap.size < w3.heap.size := (by omega); have n3_0 : ¬ w.heap.size = w3.heap.size := (by omega); have p3_1 := hb3.box (w.heap.size + 1) (by first | omega | (simp; omega) | (simp; done)); have s3_1 : w.heap.size + 1 < w3.heap.size := (by omega); have n3_1 : ¬ w.heap.size + 1 = w3.heap.size := (by omega); (try (have r3_w2 := hb3.box (w2.heap.size) (by first | omega | (simp; omega) | (simp; done)); have v3_w2 := hb3.boxf (w2.heap.size) (by first | omega | (simp; omega) | (simp; done)); have x3_w2 : w2.heap.size < w3.heap.size := (by omega))))
        | ((with_reducible refine (toValue_ex k' n' i' t' lo' hi' _).mono ?_); rintro e w4 ⟨rfl, hb4⟩; have hz4 := hb4.size; have kk4 : Bel w2 w4 := (by repeat' (first | with_reducible exact Bel.refl _ | with_reducible assumption | with_reducible refine Bel.set ?_ ?_ _ | with_reducible refine Bel.alloc ?_ _ | with_reducible refine Bel.drew ?_ | with_reducible refine Bel.drewN ?_ _ | with_reducible refine Bel.trans ?_ (by with_reducible assumption) | (simp; done) | (simp; omega) | refine Bel.alloc ?_ _ | refine Bel.drew ?_ | refine Bel.drewN ?_ _ | refine Bel.set ?_ ?_ _)); (try have zz4_3 : Z6 w4 w3.heap.size := Z6.on (Z6.new (w := w3)) hb4); (try have zz4_2 : Z6 w4 w2.heap.size := zz3_2.on hb4); (try simp only [World.size_alloc, World.size_drew, World.size_setCell] at hz4); have p4_0 := hb4.box (w.heap.size) (by first | omega | (simp; omega) | (simp; done)); have s4_0 : w.heap.size < w4.heap.size := (by omega); have n4_0 : ¬ w.heap.size = w4.heap.size := (by omega); have p4_1 := hb4.box (w.heap.size + 1) (by first | omega | (simp; omega) | (simp; done)); have s4_1 : w.heap.size + 1 < w4.heap.size := (by omega); have n4_1 : ¬ w.heap.size + 1 = w4.heap.size := (by omega); (try (have r4_w2 := hb4.box (w2.heap.size) (by first | omega | (simp; omega) | (simp; done)); have v4_w2 := hb4.boxf (w2.heap.size) (by first | omega | (simp; omega) | (simp; done)); have x4_w2 : w2.heap.size < w4.heap.size := (by omega))); (try (have r4_w3 := hb4.box (w3.heap.size) (by first | omega | (simp; omega) | (simp; done)); have v4_w3 := hb4.boxf (w3.heap.size) (by first | omega | (simp; omega) | (simp; done)); have x4_w3 : w3.heap.size < w4.heap.size := (by omega))))
        | ((with_reducible refine (HI'.out _ (htab'.out.on (Bel.trans hbw (by repeat' (first | exact Bel.refl _ | with_reducible assumption | refine Bel.trans ?_ (by with_reducible assumption) | refine Bel.alloc ?_ _ | refine Bel.drew ?_ | refine Bel.drewN ?_ _ | refine Bel.set ?_ ?_ _ | (simp; done) | (simp; omega)))))).mono ?_); rintro e w5 ⟨rfl, hb5⟩; have hz5 := hb5.size; have kk5 : Bel w2 w5 := (by repeat' (first | with_reducible exact Bel.refl _ | with_reducible assumption | with_reducible refine Bel.set ?_ ?_ _ | with_reducible refine Bel.alloc ?_ _ | with_reducible refine Bel.drew ?_ | with_reducible refine Bel.drewN ?_ _ | with_reducible refine Bel.trans ?_ (by with_reducible assumption) | (simp; done) | (simp; omega) | refine Bel.alloc ?_ _ | refine Bel.drew ?_ | refine Bel.drewN ?_ _ | refine Bel.set ?_ ?_ _)); (try have zz5_4 : Z6 w5 w4.heap.size := Z6.on (Z6.new (w := w4)) hb5); (try have zz5_3 : Z6 w5 w3.heap.size := zz4_3.on hb5); (try have zz5_2 : Z6 w5 w2.heap.size := zz4_2.on hb5); (try simp only [World.size_alloc, World.size_drew, World.size_setCell] at hz5); have p5_0 := hb5.box (w.heap.size) (by first | omega | (simp; omega) | (simp; done)); have s5_0 : w.heap.size < w5.heap.size := (by omega); have n5_0 : ¬ w.heap.size = w5.heap.size := (by omega); have p5_1 := hb5.box (w.heap.size + 1) (by first | omega | (simp; omega) | (simp; done)); have s5_1 : w.heap.size + 1 < w5.heap.size := (by omega); have n5_1 : ¬ w.heap.size + 1 = w5.heap.size := (by omega); (try (have r5_w2 := hb5.box (w2.heap.size) (by first | omega | (simp; omega) | (simp; done)); have v5_w2 := hb5.boxf (w2.heap.size) (by first | omega | (simp; omega) | (simp; done)); have x5_w2 : w2.heap.size < w5.heap.size := (by omega))); (try (have r5_w3 := hb5.box (w3.heap.size) (by first | omega | (simp; omega) | (simp; done)); have v5_w3 := hb5.boxf (w3.heap.size) (by first | omega | (simp; omega) | (simp; done)); have x5_w3 : w3.heap.size < w5.heap.size := (by omega))); (try (have r5_w4 := hb5.box (w4.heap.size) (by first | omega | (simp; omega) | (simp; done)); have v5_w4 := hb5.boxf (w4.heap.size) (by first | omega | (simp; omega) | (simp; done)); have x5_w4 : w4.heap.size < w5.heap.size := (by omega)))))
      all_goals (try go_wp2_with (fail))
      all_goals go_meet
      all_goals
        first
          | exact ⟨_, rfl, rfl, zz5_4.put _ _ _ _ _ _, (by omega), (by simp; omega), Bel.put6 kk5 (by omega) _ _ _ _ _ _⟩
          | exact ⟨_, rfl, rfl, zz5_3.put _ _ _ _ _ _, (by omega), (by simp; omega), Bel.put6 kk5 (by omega) _ _ _ _ _ _⟩
          | exact ⟨_, rfl, rfl, zz5_2.put _ _ _ _ _ _, (by omega), (by simp; omega), Bel.put6 kk5 (by omega) _ _ _ _ _ _⟩
          | exact ⟨_, rfl, rfl, Six.new (Bel.refl _), (by omega), (by simp), kk5.alloc _⟩
    case rest =>
      obtain ⟨g', rfl, rfl, ⟨e0, e1, e2, e3, e4, e5⟩, g1', g2', hbc⟩ := hcut
      have q0 := hbc.box g (by omega)
      obtain ⟨f0, f1, f2, f3, f4, f5⟩ := S'.out
      replace f0 := (q0 0).trans f0
      replace f1 := (q0 1).trans f1
      replace f2 := (q0 2).trans f2
      replace f3 := (q0 3).trans f3
      replace f4 := (q0 4).trans f4
      replace f5 := (q0 5).trans f5
      have hbf := hbw.trans hbc
      clear q0 a0 a1 a2 a3 a4 a5 b0 b1 b2 b3 b4 b5 hbc hbw
      go_wp2_with (go_at_call 20; refine (eqValue_same u0 u1 u2 u3 u4 u5 _).mono ?_; rintro e w9 ⟨rfl, hb9⟩)
      all_goals
        go_returns
        exact ⟨rfl, (by repeat' (first | with_reducible exact Bel.refl _ | with_reducible assumption | with_reducible refine Bel.set ?_ ?_ _ | with_reducible refine Bel.alloc ?_ _ | with_reducible refine Bel.drew ?_ | with_reducible refine Bel.drewN ?_ _ | with_reducible refine Bel.trans ?_ (by with_reducible assumption) | (simp; done) | (simp; omega) | refine Bel.alloc ?_ _ | refine Bel.drew ?_ | refine Bel.drewN ?_ _ | refine Bel.set ?_ ?_ _))⟩

end Go.Proofs.YtmikipcfepgogaaDoor
