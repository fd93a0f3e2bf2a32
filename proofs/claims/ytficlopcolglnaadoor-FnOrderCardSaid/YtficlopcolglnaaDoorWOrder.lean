/- The walk of FnOrder. -/
import Derived.Test.YtficlopcolglnaaDoorF11
import Derived.Test.YtficlopcolglnaaDoorF4
namespace Go.Proofs.YtficlopcolglnaaDoor
set_option linter.unusedVariables false
set_option linter.unusedSimpArgs false
set_option maxRecDepth 100000
open Go.RowKit

theorem laws_big (A : Option Addr) (n cap : Nat) (w : World) :
    Calls Tryd.prog 27 #[.slice A n cap] w fun e w' => e = .returned (.bool (decide ((1048576 : Int) < (n : Int)))) ∧ w = w' := by
  go_enter Tryd.func27, Tryd.ntmps27
  go_wp2
  all_goals
    go_returns
    exact ⟨rfl, rfl⟩
set_option maxHeartbeats 4000000 in
theorem FnOrder_walk (A : Option Addr) (n cap : Nat) (w : World) (hB : ∀ c, w.heap.size ≤ c → n ≤ 1048576 → Bts w c A n) (htab : Tabs w) :
    Calls Tryd.prog 14 #[.slice A n cap] w fun e w' => e = .returned (.bool true) ∧ Bel w w' := by
  have HB := hide hB
  have HP := hide htab
  clear hB htab
  by_cases hn : n ≤ 1048576
  · have hd := hide (show decide ((1048576 : Int) < (n : Int)) = false by simp; omega)
    go_enter Tryd.func14, Tryd.ntmps14
    go_upto_region 4 with (first
      | (go_at_call 27; refine (laws_big A n cap _).mono ?_; rintro e w1 ⟨rfl, rfl⟩; rw [hd.out])
      | (go_at_call 40; refine (drawBinary_any A n cap _ hn (fun c h => HB.out c h hn)).mono ?_; rintro e w1 ⟨op, a, b, ho, ha, hb, rfl, hb1⟩; have hz1 := hb1.size; have Hb1 := hide hb1; have Ho := hide ho; have Ha := hide ha; have HBb := hide hb; clear hb1 ho ha hb; obtain ⟨k, nn, i, t, lo, hi⟩ := a; obtain ⟨k', n', i', t', lo', hi'⟩ := b; simp only [VVal.val]))
    refine gen_world1 fun w2 hb2 => ?_
    obtain ⟨⟨a0, a1, a2, a3, a4, a5⟩, ⟨b0, b1, b2, b3, b4, b5⟩, l1⟩ := two_boxes' hb2
    have Hw2 := hide (Bel.trans (Bel.alloc (Bel.alloc Hb1.out _) _) hb2)
    have l0 : w1.heap.size < w2.heap.size := by omega
    have n0 : ¬ w1.heap.size = w2.heap.size := by omega
    have n1 : ¬ w1.heap.size + 1 = w2.heap.size := by omega
    clear hb2
    by_cases q : 40 ≤ op
    · skip
      have L := order_law ⟨k, nn, i, t, lo, hi⟩ ⟨k', n', i', t', lo', hi'⟩ 40 (by decide)
      obtain ⟨u0, u1, u2, u3, u4, u5, -, HI0, HS0⟩ := biv_ex 40 k nn i t lo hi k' n' i' t' lo' hi' Ha.out HBb.out
      obtain ⟨v0, v1, v2, v3, v4, v5, -, HI1, -⟩ := biv_ex 42 k nn i t lo hi k' n' i' t' lo' hi' Ha.out HBb.out
      obtain ⟨x0, x1, x2, x3, x4, x5, -, HI2, -⟩ := biv_ex 44 k nn i t lo hi k' n' i' t' lo' hi' Ha.out HBb.out
      rw [show (40 + 2 : Int) = 42 from rfl, show (40 + 4 : Int) = 44 from rfl] at L
      generalize (bivR 40 ⟨k, nn, i, t, lo, hi⟩ ⟨k', n', i', t', lo', hi'⟩).2 = l at L HI0 HS0
      generalize (bivR 42 ⟨k, nn, i, t, lo, hi⟩ ⟨k', n', i', t', lo', hi'⟩).2 = s at L HI1
      generalize (bivR 44 ⟨k, nn, i, t, lo, hi⟩ ⟨k', n', i', t', lo', hi'⟩).2 = m at L HI2
      replace HI0 := hide HI0
      replace HI1 := hide HI1
      replace HI2 := hide HI2
      replace HS0 := hide HS0
      clear Ha HBb Ho
      rcases L with ⟨g1, g2, rfl, rfl⟩ | ⟨g1, g2, g3, g4, g5, g6, g7⟩
      · go_wp2_with (first
          | (go_at_call 42; (with_reducible refine (HI0.out _ (HP.out.on (Bel.trans Hw2.out (by repeat' (first | exact Bel.refl _ | with_reducible assumption | refine Bel.trans ?_ (by with_reducible assumption) | refine Bel.alloc ?_ _ | refine Bel.drew ?_ | refine Bel.drewN ?_ _ | refine Bel.set ?_ ?_ _ | (simp; done) | (simp; omega)))))).mono ?_); rintro e w3 ⟨rfl, hb3⟩; have hz3 := hb3.size; (try simp only [World.size_alloc, World.size_setCell, World.size_drew] at hz3); have hk3_0 := hb3.box (w1.heap.size) (by first | (simp; done) | (simp; omega) | omega); have hf3_0 := hb3.boxf (w1.heap.size) (by first | (simp; done) | (simp; omega) | omega); have hl3_0 : w1.heap.size < w3.heap.size := (by omega); have hn3_0 : ¬ w1.heap.size = w3.heap.size := (by omega); have hk3_1 := hb3.box (w1.heap.size + 1) (by first | (simp; done) | (simp; omega) | omega); have hf3_1 := hb3.boxf (w1.heap.size + 1) (by first | (simp; done) | (simp; omega) | omega); have hl3_1 : w1.heap.size + 1 < w3.heap.size := (by omega); have hn3_1 : ¬ w1.heap.size + 1 = w3.heap.size := (by omega); (try simp only [VVal.val]))
          | (go_at_call 42; (with_reducible refine (HI1.out _ (HP.out.on (Bel.trans Hw2.out (by repeat' (first | exact Bel.refl _ | with_reducible assumption | refine Bel.trans ?_ (by with_reducible assumption) | refine Bel.alloc ?_ _ | refine Bel.drew ?_ | refine Bel.drewN ?_ _ | refine Bel.set ?_ ?_ _ | (simp; done) | (simp; omega)))))).mono ?_); rintro e w4 ⟨rfl, hb4⟩; have hz4 := hb4.size; (try simp only [World.size_alloc, World.size_setCell, World.size_drew] at hz4); have hk4_0 := hb4.box (w1.heap.size) (by first | (simp; done) | (simp; omega) | omega); have hf4_0 := hb4.boxf (w1.heap.size) (by first | (simp; done) | (simp; omega) | omega); have hl4_0 : w1.heap.size < w4.heap.size := (by omega); have hn4_0 : ¬ w1.heap.size = w4.heap.size := (by omega); have hk4_1 := hb4.box (w1.heap.size + 1) (by first | (simp; done) | (simp; omega) | omega); have hf4_1 := hb4.boxf (w1.heap.size + 1) (by first | (simp; done) | (simp; omega) | omega); have hl4_1 : w1.heap.size + 1 < w4.heap.size := (by omega); have hn4_1 : ¬ w1.heap.size + 1 = w4.heap.size := (by omega); (try simp only [VVal.val]))
          | (go_at_call 42; (with_reducible refine (HI2.out _ (HP.out.on (Bel.trans Hw2.out (by repeat' (first | exact Bel.refl _ | with_reducible assumption | refine Bel.trans ?_ (by with_reducible assumption) | refine Bel.alloc ?_ _ | refine Bel.drew ?_ | refine Bel.drewN ?_ _ | refine Bel.set ?_ ?_ _ | (simp; done) | (simp; omega)))))).mono ?_); rintro e w5 ⟨rfl, hb5⟩; have hz5 := hb5.size; (try simp only [World.size_alloc, World.size_setCell, World.size_drew] at hz5); have hk5_0 := hb5.box (w1.heap.size) (by first | (simp; done) | (simp; omega) | omega); have hf5_0 := hb5.boxf (w1.heap.size) (by first | (simp; done) | (simp; omega) | omega); have hl5_0 : w1.heap.size < w5.heap.size := (by omega); have hn5_0 : ¬ w1.heap.size = w5.heap.size := (by omega); have hk5_1 := hb5.box (w1.heap.size + 1) (by first | (simp; done) | (simp; omega) | omega); have hf5_1 := hb5.boxf (w1.heap.size + 1) (by first | (simp; done) | (simp; omega) | omega); have hl5_1 : w1.heap.size + 1 < w5.heap.size := (by omega); have hn5_1 : ¬ w1.heap.size + 1 = w5.heap.size := (by omega); (try simp only [VVal.val]))
          | (go_at_call 43; (with_reducible refine (HS0.out _).mono ?_); rintro e w6 ⟨rfl, hb6⟩; have hz6 := hb6.size; (try simp only [World.size_alloc, World.size_setCell, World.size_drew] at hz6); have hk6_0 := hb6.box (w1.heap.size) (by first | (simp; done) | (simp; omega) | omega); have hf6_0 := hb6.boxf (w1.heap.size) (by first | (simp; done) | (simp; omega) | omega); have hl6_0 : w1.heap.size < w6.heap.size := (by omega); have hn6_0 : ¬ w1.heap.size = w6.heap.size := (by omega); have hk6_1 := hb6.box (w1.heap.size + 1) (by first | (simp; done) | (simp; omega) | omega); have hf6_1 := hb6.boxf (w1.heap.size + 1) (by first | (simp; done) | (simp; omega) | omega); have hl6_1 : w1.heap.size + 1 < w6.heap.size := (by omega); have hn6_1 : ¬ w1.heap.size + 1 = w6.heap.size := (by omega); (try simp only [VVal.val])))
        all_goals
          have hw2 := Hw2.out
          go_returns
          exact ⟨rfl, (by repeat' (first | exact Bel.refl _ | with_reducible assumption | refine Bel.trans ?_ (by with_reducible assumption) | refine Bel.alloc ?_ _ | refine Bel.drew ?_ | refine Bel.drewN ?_ _ | refine Bel.set ?_ ?_ _ | (simp; done) | (simp; omega)))⟩
      · have g8 : ((l + s + m) == -2) = true := by simp; exact g7
        have g9 : ¬ 0 < l := by omega
        have g7' := hide g7
        clear g7
        go_wp2_with (first
          | (go_at_call 42; (with_reducible refine (HI0.out _ (HP.out.on (Bel.trans Hw2.out (by repeat' (first | exact Bel.refl _ | with_reducible assumption | refine Bel.trans ?_ (by with_reducible assumption) | refine Bel.alloc ?_ _ | refine Bel.drew ?_ | refine Bel.drewN ?_ _ | refine Bel.set ?_ ?_ _ | (simp; done) | (simp; omega)))))).mono ?_); rintro e w3 ⟨rfl, hb3⟩; have hz3 := hb3.size; (try simp only [World.size_alloc, World.size_setCell, World.size_drew] at hz3); have hk3_0 := hb3.box (w1.heap.size) (by first | (simp; done) | (simp; omega) | omega); have hf3_0 := hb3.boxf (w1.heap.size) (by first | (simp; done) | (simp; omega) | omega); have hl3_0 : w1.heap.size < w3.heap.size := (by omega); have hn3_0 : ¬ w1.heap.size = w3.heap.size := (by omega); have hk3_1 := hb3.box (w1.heap.size + 1) (by first | (simp; done) | (simp; omega) | omega); have hf3_1 := hb3.boxf (w1.heap.size + 1) (by first | (simp; done) | (simp; omega) | omega); have hl3_1 : w1.heap.size + 1 < w3.heap.size := (by omega); have hn3_1 : ¬ w1.heap.size + 1 = w3.heap.size := (by omega); (try simp only [VVal.val]))
          | (go_at_call 42; (with_reducible refine (HI1.out _ (HP.out.on (Bel.trans Hw2.out (by repeat' (first | exact Bel.refl _ | with_reducible assumption | refine Bel.trans ?_ (by with_reducible assumption) | refine Bel.alloc ?_ _ | refine Bel.drew ?_ | refine Bel.drewN ?_ _ | refine Bel.set ?_ ?_ _ | (simp; done) | (simp; omega)))))).mono ?_); rintro e w4 ⟨rfl, hb4⟩; have hz4 := hb4.size; (try simp only [World.size_alloc, World.size_setCell, World.size_drew] at hz4); have hk4_0 := hb4.box (w1.heap.size) (by first | (simp; done) | (simp; omega) | omega); have hf4_0 := hb4.boxf (w1.heap.size) (by first | (simp; done) | (simp; omega) | omega); have hl4_0 : w1.heap.size < w4.heap.size := (by omega); have hn4_0 : ¬ w1.heap.size = w4.heap.size := (by omega); have hk4_1 := hb4.box (w1.heap.size + 1) (by first | (simp; done) | (simp; omega) | omega); have hf4_1 := hb4.boxf (w1.heap.size + 1) (by first | (simp; done) | (simp; omega) | omega); have hl4_1 : w1.heap.size + 1 < w4.heap.size := (by omega); have hn4_1 : ¬ w1.heap.size + 1 = w4.heap.size := (by omega); (try simp only [VVal.val]))
          | (go_at_call 42; (with_reducible refine (HI2.out _ (HP.out.on (Bel.trans Hw2.out (by repeat' (first | exact Bel.refl _ | with_reducible assumption | refine Bel.trans ?_ (by with_reducible assumption) | refine Bel.alloc ?_ _ | refine Bel.drew ?_ | refine Bel.drewN ?_ _ | refine Bel.set ?_ ?_ _ | (simp; done) | (simp; omega)))))).mono ?_); rintro e w5 ⟨rfl, hb5⟩; have hz5 := hb5.size; (try simp only [World.size_alloc, World.size_setCell, World.size_drew] at hz5); have hk5_0 := hb5.box (w1.heap.size) (by first | (simp; done) | (simp; omega) | omega); have hf5_0 := hb5.boxf (w1.heap.size) (by first | (simp; done) | (simp; omega) | omega); have hl5_0 : w1.heap.size < w5.heap.size := (by omega); have hn5_0 : ¬ w1.heap.size = w5.heap.size := (by omega); have hk5_1 := hb5.box (w1.heap.size + 1) (by first | (simp; done) | (simp; omega) | omega); have hf5_1 := hb5.boxf (w1.heap.size + 1) (by first | (simp; done) | (simp; omega) | omega); have hl5_1 : w1.heap.size + 1 < w5.heap.size := (by omega); have hn5_1 : ¬ w1.heap.size + 1 = w5.heap.size := (by omega); (try simp only [VVal.val]))
          | (go_at_call 43; (with_reducible refine (HS0.out _).mono ?_); rintro e w6 ⟨rfl, hb6⟩; have hz6 := hb6.size; (try simp only [World.size_alloc, World.size_setCell, World.size_drew] at hz6); have hk6_0 := hb6.box (w1.heap.size) (by first | (simp; done) | (simp; omega) | omega); have hf6_0 := hb6.boxf (w1.heap.size) (by first | (simp; done) | (simp; omega) | omega); have hl6_0 : w1.heap.size < w6.heap.size := (by omega); have hn6_0 : ¬ w1.heap.size = w6.heap.size := (by omega); have hk6_1 := hb6.box (w1.heap.size + 1) (by first | (simp; done) | (simp; omega) | omega); have hf6_1 := hb6.boxf (w1.heap.size + 1) (by first | (simp; done) | (simp; omega) | omega); have hl6_1 : w1.heap.size + 1 < w6.heap.size := (by omega); have hn6_1 : ¬ w1.heap.size + 1 = w6.heap.size := (by omega); (try simp only [VVal.val])))
        all_goals
          have hw2 := Hw2.out
          go_returns
          exact ⟨by first | rfl | simp [g8], (by repeat' (first | exact Bel.refl _ | with_reducible assumption | refine Bel.trans ?_ (by with_reducible assumption) | refine Bel.alloc ?_ _ | refine Bel.drew ?_ | refine Bel.drewN ?_ _ | refine Bel.set ?_ ?_ _ | (simp; done) | (simp; omega)))⟩
    · skip
      have L := order_law ⟨k, nn, i, t, lo, hi⟩ ⟨k', n', i', t', lo', hi'⟩ 30 (by decide)
      obtain ⟨u0, u1, u2, u3, u4, u5, -, HI0, HS0⟩ := biv_ex 30 k nn i t lo hi k' n' i' t' lo' hi' Ha.out HBb.out
      obtain ⟨v0, v1, v2, v3, v4, v5, -, HI1, -⟩ := biv_ex 32 k nn i t lo hi k' n' i' t' lo' hi' Ha.out HBb.out
      obtain ⟨x0, x1, x2, x3, x4, x5, -, HI2, -⟩ := biv_ex 34 k nn i t lo hi k' n' i' t' lo' hi' Ha.out HBb.out
      rw [show (30 + 2 : Int) = 32 from rfl, show (30 + 4 : Int) = 34 from rfl] at L
      generalize (bivR 30 ⟨k, nn, i, t, lo, hi⟩ ⟨k', n', i', t', lo', hi'⟩).2 = l at L HI0 HS0
      generalize (bivR 32 ⟨k, nn, i, t, lo, hi⟩ ⟨k', n', i', t', lo', hi'⟩).2 = s at L HI1
      generalize (bivR 34 ⟨k, nn, i, t, lo, hi⟩ ⟨k', n', i', t', lo', hi'⟩).2 = m at L HI2
      replace HI0 := hide HI0
      replace HI1 := hide HI1
      replace HI2 := hide HI2
      replace HS0 := hide HS0
      clear Ha HBb Ho
      rcases L with ⟨g1, g2, rfl, rfl⟩ | ⟨g1, g2, g3, g4, g5, g6, g7⟩
      · go_wp2_with (first
          | (go_at_call 42; (with_reducible refine (HI0.out _ (HP.out.on (Bel.trans Hw2.out (by repeat' (first | exact Bel.refl _ | with_reducible assumption | refine Bel.trans ?_ (by with_reducible assumption) | refine Bel.alloc ?_ _ | refine Bel.drew ?_ | refine Bel.drewN ?_ _ | refine Bel.set ?_ ?_ _ | (simp; done) | (simp; omega)))))).mono ?_); rintro e w3 ⟨rfl, hb3⟩; have hz3 := hb3.size; (try simp only [World.size_alloc, World.size_setCell, World.size_drew] at hz3); have hk3_0 := hb3.box (w1.heap.size) (by first | (simp; done) | (simp; omega) | omega); have hf3_0 := hb3.boxf (w1.heap.size) (by first | (simp; done) | (simp; omega) | omega); have hl3_0 : w1.heap.size < w3.heap.size := (by omega); have hn3_0 : ¬ w1.heap.size = w3.heap.size := (by omega); have hk3_1 := hb3.box (w1.heap.size + 1) (by first | (simp; done) | (simp; omega) | omega); have hf3_1 := hb3.boxf (w1.heap.size + 1) (by first | (simp; done) | (simp; omega) | omega); have hl3_1 : w1.heap.size + 1 < w3.heap.size := (by omega); have hn3_1 : ¬ w1.heap.size + 1 = w3.heap.size := (by omega); (try simp only [VVal.val]))
          | (go_at_call 42; (with_reducible refine (HI1.out _ (HP.out.on (Bel.trans Hw2.out (by repeat' (first | exact Bel.refl _ | with_reducible assumption | refine Bel.trans ?_ (by with_reducible assumption) | refine Bel.alloc ?_ _ | refine Bel.drew ?_ | refine Bel.drewN ?_ _ | refine Bel.set ?_ ?_ _ | (simp; done) | (simp; omega)))))).mono ?_); rintro e w4 ⟨rfl, hb4⟩; have hz4 := hb4.size; (try simp only [World.size_alloc, World.size_setCell, World.size_drew] at hz4); have hk4_0 := hb4.box (w1.heap.size) (by first | (simp; done) | (simp; omega) | omega); have hf4_0 := hb4.boxf (w1.heap.size) (by first | (simp; done) | (simp; omega) | omega); have hl4_0 : w1.heap.size < w4.heap.size := (by omega); have hn4_0 : ¬ w1.heap.size = w4.heap.size := (by omega); have hk4_1 := hb4.box (w1.heap.size + 1) (by first | (simp; done) | (simp; omega) | omega); have hf4_1 := hb4.boxf (w1.heap.size + 1) (by first | (simp; done) | (simp; omega) | omega); have hl4_1 : w1.heap.size + 1 < w4.heap.size := (by omega); have hn4_1 : ¬ w1.heap.size + 1 = w4.heap.size := (by omega); (try simp only [VVal.val]))
          | (go_at_call 42; (with_reducible refine (HI2.out _ (HP.out.on (Bel.trans Hw2.out (by repeat' (first | exact Bel.refl _ | with_reducible assumption | refine Bel.trans ?_ (by with_reducible assumption) | refine Bel.alloc ?_ _ | refine Bel.drew ?_ | refine Bel.drewN ?_ _ | refine Bel.set ?_ ?_ _ | (simp; done) | (simp; omega)))))).mono ?_); rintro e w5 ⟨rfl, hb5⟩; have hz5 := hb5.size; (try simp only [World.size_alloc, World.size_setCell, World.size_drew] at hz5); have hk5_0 := hb5.box (w1.heap.size) (by first | (simp; done) | (simp; omega) | omega); have hf5_0 := hb5.boxf (w1.heap.size) (by first | (simp; done) | (simp; omega) | omega); have hl5_0 : w1.heap.size < w5.heap.size := (by omega); have hn5_0 : ¬ w1.heap.size = w5.heap.size := (by omega); have hk5_1 := hb5.box (w1.heap.size + 1) (by first | (simp; done) | (simp; omega) | omega); have hf5_1 := hb5.boxf (w1.heap.size + 1) (by first | (simp; done) | (simp; omega) | omega); have hl5_1 : w1.heap.size + 1 < w5.heap.size := (by omega); have hn5_1 : ¬ w1.heap.size + 1 = w5.heap.size := (by omega); (try simp only [VVal.val]))
          | (go_at_call 43; (with_reducible refine (HS0.out _).mono ?_); rintro e w6 ⟨rfl, hb6⟩; have hz6 := hb6.size; (try simp only [World.size_alloc, World.size_setCell, World.size_drew] at hz6); have hk6_0 := hb6.box (w1.heap.size) (by first | (simp; done) | (simp; omega) | omega); have hf6_0 := hb6.boxf (w1.heap.size) (by first | (simp; done) | (simp; omega) | omega); have hl6_0 : w1.heap.size < w6.heap.size := (by omega); have hn6_0 : ¬ w1.heap.size = w6.heap.size := (by omega); have hk6_1 := hb6.box (w1.heap.size + 1) (by first | (simp; done) | (simp; omega) | omega); have hf6_1 := hb6.boxf (w1.heap.size + 1) (by first | (simp; done) | (simp; omega) | omega); have hl6_1 : w1.heap.size + 1 < w6.heap.size := (by omega); have hn6_1 : ¬ w1.heap.size + 1 = w6.heap.size := (by omega); (try simp only [VVal.val])))
        all_goals
          have hw2 := Hw2.out
          go_returns
          exact ⟨rfl, (by repeat' (first | exact Bel.refl _ | with_reducible assumption | refine Bel.trans ?_ (by with_reducible assumption) | refine Bel.alloc ?_ _ | refine Bel.drew ?_ | refine Bel.drewN ?_ _ | refine Bel.set ?_ ?_ _ | (simp; done) | (simp; omega)))⟩
      · have g8 : ((l + s + m) == -2) = true := by simp; exact g7
        have g9 : ¬ 0 < l := by omega
        have g7' := hide g7
        clear g7
        go_wp2_with (first
          | (go_at_call 42; (with_reducible refine (HI0.out _ (HP.out.on (Bel.trans Hw2.out (by repeat' (first | exact Bel.refl _ | with_reducible assumption | refine Bel.trans ?_ (by with_reducible assumption) | refine Bel.alloc ?_ _ | refine Bel.drew ?_ | refine Bel.drewN ?_ _ | refine Bel.set ?_ ?_ _ | (simp; done) | (simp; omega)))))).mono ?_); rintro e w3 ⟨rfl, hb3⟩; have hz3 := hb3.size; (try simp only [World.size_alloc, World.size_setCell, World.size_drew] at hz3); have hk3_0 := hb3.box (w1.heap.size) (by first | (simp; done) | (simp; omega) | omega); have hf3_0 := hb3.boxf (w1.heap.size) (by first | (simp; done) | (simp; omega) | omega); have hl3_0 : w1.heap.size < w3.heap.size := (by omega); have hn3_0 : ¬ w1.heap.size = w3.heap.size := (by omega); have hk3_1 := hb3.box (w1.heap.size + 1) (by first | (simp; done) | (simp; omega) | omega); have hf3_1 := hb3.boxf (w1.heap.size + 1) (by first | (simp; done) | (simp; omega) | omega); have hl3_1 : w1.heap.size + 1 < w3.heap.size := (by omega); have hn3_1 : ¬ w1.heap.size + 1 = w3.heap.size := (by omega); (try simp only [VVal.val]))
          | (go_at_call 42; (with_reducible refine (HI1.out _ (HP.out.on (Bel.trans Hw2.out (by repeat' (first | exact Bel.refl _ | with_reducible assumption | refine Bel.trans ?_ (by with_reducible assumption) | refine Bel.alloc ?_ _ | refine Bel.drew ?_ | refine Bel.drewN ?_ _ | refine Bel.set ?_ ?_ _ | (simp; done) | (simp; omega)))))).mono ?_); rintro e w4 ⟨rfl, hb4⟩; have hz4 := hb4.size; (try simp only [World.size_alloc, World.size_setCell, World.size_drew] at hz4); have hk4_0 := hb4.box (w1.heap.size) (by first | (simp; done) | (simp; omega) | omega); have hf4_0 := hb4.boxf (w1.heap.size) (by first | (simp; done) | (simp; omega) | omega); have hl4_0 : w1.heap.size < w4.heap.size := (by omega); have hn4_0 : ¬ w1.heap.size = w4.heap.size := (by omega); have hk4_1 := hb4.box (w1.heap.size + 1) (by first | (simp; done) | (simp; omega) | omega); have hf4_1 := hb4.boxf (w1.heap.size + 1) (by first | (simp; done) | (simp; omega) | omega); have hl4_1 : w1.heap.size + 1 < w4.heap.size := (by omega); have hn4_1 : ¬ w1.heap.size + 1 = w4.heap.size := (by omega); (try simp only [VVal.val]))
          | (go_at_call 42; (with_reducible refine (HI2.out _ (HP.out.on (Bel.trans Hw2.out (by repeat' (first | exact Bel.refl _ | with_reducible assumption | refine Bel.trans ?_ (by with_reducible assumption) | refine Bel.alloc ?_ _ | refine Bel.drew ?_ | refine Bel.drewN ?_ _ | refine Bel.set ?_ ?_ _ | (simp; done) | (simp; omega)))))).mono ?_); rintro e w5 ⟨rfl, hb5⟩; have hz5 := hb5.size; (try simp only [World.size_alloc, World.size_setCell, World.size_drew] at hz5); have hk5_0 := hb5.box (w1.heap.size) (by first | (simp; done) | (simp; omega) | omega); have hf5_0 := hb5.boxf (w1.heap.size) (by first | (simp; done) | (simp; omega) | omega); have hl5_0 : w1.heap.size < w5.heap.size := (by omega); have hn5_0 : ¬ w1.heap.size = w5.heap.size := (by omega); have hk5_1 := hb5.box (w1.heap.size + 1) (by first | (simp; done) | (simp; omega) | omega); have hf5_1 := hb5.boxf (w1.heap.size + 1) (by first | (simp; done) | (simp; omega) | omega); have hl5_1 : w1.heap.size + 1 < w5.heap.size := (by omega); have hn5_1 : ¬ w1.heap.size + 1 = w5.heap.size := (by omega); (try simp only [VVal.val]))
          | (go_at_call 43; (with_reducible refine (HS0.out _).mono ?_); rintro e w6 ⟨rfl, hb6⟩; have hz6 := hb6.size; (try simp only [World.size_alloc, World.size_setCell, World.size_drew] at hz6); have hk6_0 := hb6.box (w1.heap.size) (by first | (simp; done) | (simp; omega) | omega); have hf6_0 := hb6.boxf (w1.heap.size) (by first | (simp; done) | (simp; omega) | omega); have hl6_0 : w1.heap.size < w6.heap.size := (by omega); have hn6_0 : ¬ w1.heap.size = w6.heap.size := (by omega); have hk6_1 := hb6.box (w1.heap.size + 1) (by first | (simp; done) | (simp; omega) | omega); have hf6_1 := hb6.boxf (w1.heap.size + 1) (by first | (simp; done) | (simp; omega) | omega); have hl6_1 : w1.heap.size + 1 < w6.heap.size := (by omega); have hn6_1 : ¬ w1.heap.size + 1 = w6.heap.size := (by omega); (try simp only [VVal.val])))
        all_goals
          have hw2 := Hw2.out
          go_returns
          exact ⟨by first | rfl | simp [g8], (by repeat' (first | exact Bel.refl _ | with_reducible assumption | refine Bel.trans ?_ (by with_reducible assumption) | refine Bel.alloc ?_ _ | refine Bel.drew ?_ | refine Bel.drewN ?_ _ | refine Bel.set ?_ ?_ _ | (simp; done) | (simp; omega)))⟩
  · have hd := hide (show decide ((1048576 : Int) < (n : Int)) = true by simp; omega)
    go_enter Tryd.func14, Tryd.ntmps14
    go_wp2_with (go_at_call 27; refine (laws_big A n cap _).mono ?_; rintro e w1 ⟨rfl, rfl⟩; rw [hd.out])
    all_goals
      go_returns
      exact ⟨rfl, (by repeat' (first | exact Bel.refl _ | with_reducible assumption | refine Bel.trans ?_ (by with_reducible assumption) | refine Bel.alloc ?_ _ | refine Bel.drew ?_ | refine Bel.drewN ?_ _ | refine Bel.set ?_ ?_ _ | (simp; done) | (simp; omega)))⟩

end Go.Proofs.YtficlopcolglnaaDoor
