/- Draws: a set of characters, any. -/
import Derived.Test.YtmikipcfepgogaaF7
import Derived.Test.YtmikipcfepgogaaU
import Derived.Deep.Cut
namespace Go.Proofs.Ytmikipcfepgogaa
set_option linter.unusedVariables false
set_option linter.unusedSimpArgs false
set_option maxRecDepth 100000
open Go.RowKit

/-- A set comes back. -/
def DrewC (w : World) (c : Nat) (A : Option Addr) (n cap : Nat) (e : Ending) (w' : World) : Prop :=
  ∃ lo hi : Int, InI lo ∧ InI hi ∧ e = .returned (.agg #[.int .i64 lo, .int .i64 hi]) ∧ Cur w' c A n cap ∧ Oth c w w'
theorem Box2.oth {w w' : World} {b c : Nat} {x y : Int} (h : Box2 w b x y) (hb : Oth c w w') (hn : b ≠ c) : Box2 w' b x y :=
  ⟨(hb.cell h.2.2.2.2 hn).trans h.1, (hb.cell h.2.2.2.2 hn).trans h.2.1, (hb.frozen h.2.2.2.2 hn).trans h.2.2.1, (hb.frozen h.2.2.2.2 hn).trans h.2.2.2.1, Nat.lt_of_lt_of_le h.2.2.2.2 hb.size⟩
theorem Box2.new {w : World} {t : TypeId} {x y : Int} : Box2 (w.alloc (.cells #[.int .i64 x, .int .i64 y] t)) w.heap.size x y := ⟨by simp, by simp, by simp, by simp, by simp⟩
theorem Oth.put2 {c : Nat} {w w' : World} {b : Nat} (h : Oth c w w') (hb : w.heap.size ≤ b) (u v : Value) : Oth c w ((w'.setCell ⟨b, 0, none⟩ u).setCell ⟨b, 1, none⟩ v) := by
  have k : Below w.heap.size w' ((w'.setCell ⟨b, 0, none⟩ u).setCell ⟨b, 1, none⟩ v) := Below.setCell (Below.setCell (Below.refl _ _) hb u) hb v
  exact ⟨k.os.trans h.os, k.tape.trans h.tape, k.output.trans h.output, Nat.le_trans h.size k.size, fun i hi hc => (k.block i hi).trans (h.block i hi hc)⟩
theorem Cur.fin {w w5 w' : World} {c : Nat} {A : Option Addr} {n cap : Nat} (h0 : Cur w c A n cap) (h5 : Cur w5 c A n cap) (k : Oth c w w') (hs : ∀ o, w'.cell? ⟨c, o, none⟩ = w5.cell? ⟨c, o, none⟩) (hf : ∀ o, w'.frozen? ⟨c, o, none⟩ = w5.frozen? ⟨c, o, none⟩) : Cur w' c A n cap := by
  obtain ⟨l, f, hB, i, x, hi, c0, c1, c2⟩ := h5
  exact h0.put k (fun o => (hf o).trans (f o)) i x hi ((hs 0).trans c0) ((hs 1).trans c1) ((hs 2).trans c2)
theorem Cur.fin2 {w w5 : World} {c b : Nat} {A : Option Addr} {n cap : Nat} {u v : Value} (h0 : Cur w c A n cap) (h5 : Cur w5 c A n cap) (k : Oth c w w5) (hb : w.heap.size ≤ b) (hn : b ≠ c) : Cur ((w5.setCell ⟨b, 0, none⟩ u).setCell ⟨b, 1, none⟩ v) c A n cap :=
  Cur.fin h0 h5 (k.put2 hb u v) (fun o => by rw [World.cell?_setCell_far _ _ _ _ hn, World.cell?_setCell_far _ _ _ _ hn]) (fun o => by simp)

set_option maxHeartbeats 2000000 in
theorem l2Draw_any (c : Nat) (A : Option Addr) (n cap : Nat) (w : World) (hc : Cur w c A n cap) :
    Calls Try.prog 89 #[.pointer (some ⟨c, 0, none⟩)] w (DrewC w c A n cap) := by
  have HC := hide hc
  have hlt := hc.1
  have hne : w.heap.size ≠ c := by omega
  clear hc
  go_enter Try.func89, Try.ntmps89
  go_upto_region 2 with (first
    | (go_at_call 106; refine (l1Pick_any (w.heap.size + 1) 8 20 8 c A n cap _ (HC.out.bel (by repeat' (first | with_reducible exact Bel.refl _ | with_reducible assumption | with_reducible refine Bel.set ?_ ?_ _ | with_reducible refine Bel.alloc ?_ _ | with_reducible refine Bel.drew ?_ | with_reducible refine Bel.drewN ?_ _ | with_reducible refine Bel.trans ?_ (by with_reducible assumption) | (simp; done) | (simp; omega) | refine Bel.alloc ?_ _ | refine Bel.drew ?_ | refine Bel.drewN ?_ _ | refine Bel.set ?_ ?_ _))) (by have h := rowT_new (w := w.alloc (.cells #[.int .i64 0, .int .i64 0] 40)) (t := 9) 20 [⟨#[]⟩, ⟨#[97]⟩, ⟨#[97, 98, 99]⟩, ⟨#[120, 121, 122]⟩, ⟨#[48, 49, 50, 51, 52, 53, 54, 55, 56, 57]⟩, ⟨#[97, 101, 105, 111, 117]⟩, ⟨#[0, 63, 64, 127]⟩, ⟨#[32, 9, 10]⟩] (by decide +kernel); rw [World.size_alloc] at h; exact h) (by omega) (by omega) (by omega)).mono ?_; rintro e w1 ⟨x, hx, rfl, hC1, hO1⟩; have HC1 := hide hC1; have HO1 := hide (Oth.trans (Oth.of_bel (c := c) (w := w) (by repeat' (first | with_reducible exact Bel.refl _ | with_reducible assumption | with_reducible refine Bel.set ?_ ?_ _ | with_reducible refine Bel.alloc ?_ _ | with_reducible refine Bel.drew ?_ | with_reducible refine Bel.drewN ?_ _ | with_reducible refine Bel.trans ?_ (by with_reducible assumption) | (simp; done) | (simp; omega) | refine Bel.alloc ?_ _ | refine Bel.drew ?_ | refine Bel.drewN ?_ _ | refine Bel.set ?_ ?_ _))) hO1); have R1 := hide (Box2.oth (Box2.on Box2.new (by repeat' (first | with_reducible exact Bel.refl _ | with_reducible assumption | with_reducible refine Bel.set ?_ ?_ _ | with_reducible refine Bel.alloc ?_ _ | with_reducible refine Bel.drew ?_ | with_reducible refine Bel.drewN ?_ _ | with_reducible refine Bel.trans ?_ (by with_reducible assumption) | (simp; done) | (simp; omega) | refine Bel.alloc ?_ _ | refine Bel.drew ?_ | refine Bel.drewN ?_ _ | refine Bel.set ?_ ?_ _))) hO1 hne); clear hC1 hO1)
    | (go_at_call 98; refine (specNewCset_any x _ (by unfold maxLen; omega)).mono ?_; rintro e w2 ⟨rfl, hb2⟩; have hI := ns_in x; have hI1 := hide hI.1; have hI2 := hide hI.2; clear hI; generalize nsLo x = lo at hI1 ⊢; generalize nsHi x = hi at hI2 ⊢; generalize nsOk x = okx))
  refine gen_world1 fun w3 hb3 => ?_
  have hb23 : Bel w1 w3 := Bel.trans (Bel.alloc hb2 _) hb3
  have X3 := hide (Box2.on Box2.new hb3)
  have R3 := hide (R1.out.on hb23)
  have HC3 := hide (HC1.out.bel hb23)
  have HO3 := hide (HO1.out.trans (Oth.of_bel hb23))
  have hs2 : w.heap.size ≤ w2.heap.size := Nat.le_trans HO1.out.size hb2.size
  have hsc : w2.heap.size ≠ c := by have := HC1.out.1; have := hb2.size; omega
  have hsr : w2.heap.size ≠ w.heap.size := by have := R1.out.2.2.2.2; have := hb2.size; omega
  clear hb2 hb3 hb23 R1 HC1 HO1
  go_upto_region 3 with (go_at_call 102; refine (l1Below_any 5 c A n cap _ HC3.out (by unfold InI; omega)).mono ?_; rintro e w4 ⟨y, y1, y2, rfl, hC4, hO4⟩; have HC4 := hide hC4; have X4 := hide (X3.out.oth hO4 hsc); have R4 := hide (R3.out.oth hO4 hne); have HO4 := hide (HO3.out.trans hO4); clear hC4 hO4)
  have hR := R4.out
  obtain ⟨r0, r1, r2, r3, r4⟩ := hR
  have hX := X4.out
  obtain ⟨x0, x1, x2, x3, x4⟩ := hX
  rcases (show y = 0 ∨ y = 1 ∨ y = 2 ∨ (¬ y = 0 ∧ ¬ y = 1 ∧ ¬ y = 2) by omega) with rfl | rfl | rfl | ⟨q0, q1, q2⟩
  · go_wp2_with (go_at_call 114; refine (specCompl_any lo hi _).mono ?_; rintro e w5 ⟨rfl, hb5⟩; have R5 := hide (R4.out.on hb5); have hR5 := R5.out; obtain ⟨r0, r1, r2, r3, r4⟩ := hR5; have HC5 := hide (HC4.out.bel hb5); have HO5 := hide (HO4.out.trans (Oth.of_bel hb5)); clear hb5)
    have D := R5.out.put (cmpl lo) (cmpl hi)
    obtain ⟨d0, d1, d2, d3, d4⟩ := D
    exact bodyPost_ret (v := .agg #[.int .i64 (cmpl lo), .int .i64 (cmpl hi)]) (by simp [results, Try.results89, d0, d1, go_sem]; try rfl) rfl ⟨_, _, inI_wrap _, inI_wrap _, rfl, Cur.fin2 HC.out HC5.out HO5.out (Nat.le_refl _) hne, HO5.out.put2 (Nat.le_refl _) _ _⟩
  · go_wp2_with (first
      | ((with_reducible refine (l1Whole_any c A n cap w4 HC4.out).mono ?_); rintro e w5 ⟨y5, hy5, rfl, hC5, hO5⟩; have hy5' := hide hy5; have HC5 := hide hC5; have R5 := hide (R4.out.oth hO5 hne); have HO5 := hide (HO4.out.trans hO5); clear hy5 hC5 hO5)
      | ((with_reducible refine (l1Whole_any c A n cap w5 HC5.out).mono ?_); rintro e w6 ⟨y6, hy6, rfl, hC6, hO6⟩; have hy6' := hide hy6; have HC6 := hide hC6; have R6 := hide (R5.out.oth hO6 hne); have HO6 := hide (HO5.out.trans hO6); have hR6 := R6.out; obtain ⟨r0, r1, r2, r3, r4⟩ := hR6; clear hy6 hC6 hO6))
    have D := R6.out.put y5 y6
    obtain ⟨d0, d1, d2, d3, d4⟩ := D
    exact bodyPost_ret (v := .agg #[.int .i64 y5, .int .i64 y6]) (by simp [results, Try.results89, d0, d1, go_sem]; try rfl) rfl ⟨_, _, hy5'.out, hy6'.out, rfl, Cur.fin2 HC.out HC6.out HO6.out (Nat.le_refl _) hne, HO6.out.put2 (Nat.le_refl _) _ _⟩
  · go_upto_region 9 with (first
      | ((with_reducible refine (l1Below_any 64 c A n cap w4 HC4.out (by unfold InI; omega)).mono ?_); rintro e w5 ⟨y5, a5, b5, rfl, hC5, hO5⟩; have b5' : y5 ≤ 63 := b5; clear b5; obtain ⟨f5, rfl⟩ := Int.eq_ofNat_of_zero_le a5; have g5 : IntKind.u8.wrap (f5 : Int) = (f5 : Int) := (by rw [IntKind.wrap_u8]; omega); have HC5 := hide hC5; have R5 := hide (R4.out.oth hO5 hne); have X5 := hide (X4.out.oth hO5 hsc); have HO5 := hide (HO4.out.trans hO5); clear hC5 hO5)
      | ((with_reducible refine (l1Below_any 64 c A n cap w5 HC5.out (by unfold InI; omega)).mono ?_); rintro e w6 ⟨y6, a6, b6, rfl, hC6, hO6⟩; have b6' : y6 ≤ 63 := b6; clear b6; obtain ⟨f6, rfl⟩ := Int.eq_ofNat_of_zero_le a6; have g6 : IntKind.u8.wrap (64 + (f6 : Int)) = (64 + (f6 : Int)) := (by rw [IntKind.wrap_u8]; omega); have HC6 := hide hC6; have R6 := hide (R5.out.oth hO6 hne); have X6 := hide (X5.out.oth hO6 hsc); have HO6 := hide (HO5.out.trans hO6); clear hC6 hO6)
      | (go_at_call 116; rw [show (64 + (f6 : Int)) = ((64 + f6 : Nat) : Int) by omega]; refine (specRange_some f5 (64 + f6) _ (by omega) (by omega) (by omega) (by omega)).mono ?_; rintro e w7 ⟨l7, h7, b7, i7, j7, rfl, hb7⟩; have i7' := hide i7; have j7' := hide j7; have HC7 := hide (HC6.out.bel hb7); have R7 := hide (R6.out.on hb7); have X7 := hide (X6.out.on hb7); have HO7 := hide (HO6.out.trans (Oth.of_bel hb7)); clear i7 j7 hb7))
    refine gen_world1 fun w8 hb8 => ?_
    have Y8 := hide (Box2.on Box2.new hb8)
    have hb78 : Bel w7 w8 := Bel.trans (Bel.alloc (Bel.refl _) _) hb8
    have R8 := hide (R7.out.on hb78)
    have X8 := hide (X7.out.on hb78)
    have HC8 := hide (HC7.out.bel hb78)
    have HO8 := hide (HO7.out.trans (Oth.of_bel hb78))
    have h8 := R8.out
    obtain ⟨r0, r1, r2, r3, r4⟩ := h8
    have h8 := X8.out
    obtain ⟨x0, x1, x2, x3, x4⟩ := h8
    have h8 := Y8.out
    obtain ⟨z0, z1, z2, z3, z4⟩ := h8
    go_wp2_with (go_at_call 117; refine (specSubtractCsets_any l7 h7 lo hi _).mono ?_; rintro e w9 ⟨rfl, hb9⟩; have R9 := hide (R8.out.on hb9); have h9 := R9.out; obtain ⟨r0, r1, r2, r3, r4⟩ := h9; have HC9 := hide (HC8.out.bel hb9); have HO9 := hide (HO8.out.trans (Oth.of_bel hb9)); clear hb9)
    have D := R9.out.put (bits .andNot .i64 l7 lo) (bits .andNot .i64 h7 hi)
    obtain ⟨d0, d1, d2, d3, d4⟩ := D
    exact bodyPost_ret (v := .agg #[.int .i64 (bits .andNot .i64 l7 lo), .int .i64 (bits .andNot .i64 h7 hi)]) (by simp [results, Try.results89, d0, d1, go_sem]; try rfl) rfl ⟨_, _, inI_wrap _, inI_wrap _, rfl, Cur.fin2 HC.out HC9.out HO9.out (Nat.le_refl _) hne, HO9.out.put2 (Nat.le_refl _) _ _⟩
  · have p0 : (y == 0) = false := by simp [q0]
    have p1 : (y == 1) = false := by simp [q1]
    have p2 : (y == 2) = false := by simp [q2]
    clear q0 q1 q2
    go_wp2_with (fail)
    have D := R4.out.put lo hi
    obtain ⟨d0, d1, d2, d3, d4⟩ := D
    exact bodyPost_ret (v := .agg #[.int .i64 lo, .int .i64 hi]) (by simp [results, Try.results89, d0, d1, go_sem]; try rfl) rfl ⟨_, _, hI1.out, hI2.out, rfl, Cur.fin2 HC.out HC4.out HO4.out (Nat.le_refl _) hne, HO4.out.put2 (Nat.le_refl _) _ _⟩

end Go.Proofs.Ytmikipcfepgogaa
