/- Draws: a set of characters. -/
import Derived.Test.YtdacpljinffnaaaDoorPF1
import Derived.Test.YtdacpljinffnaaaDoorPBits
import Derived.Test.YtdacpljinffnaaaDoorPB
import Derived.Deep.Cut
namespace Go.Proofs.YtdacpljinffnaaaDoor
set_option linter.unusedVariables false
set_option linter.unusedSimpArgs false
set_option maxRecDepth 100000
open Go.RowKit
theorem inI_wrap (n : Int) : InI (IntKind.i64.wrap n) := by unfold InI; rw [IntKind.wrap_i64]; omega
theorem addLo_in {lo : Int} (b : Nat) (h : InI lo) : InI (addLo lo b) := by unfold addLo; split; exact orB_in _ _; exact h
theorem addHi_in {hi : Int} (b : Nat) (h : InI hi) : InI (addHi hi b) := by unfold addHi; split; exact h; exact orB_in _ _
theorem nsF_in (s : ByteArray) : ∀ (f i : Nat) (lo hi : Int) (p : Int × Int), InI lo → InI hi → nsF s f i lo hi = some p → InI p.1 ∧ InI p.2
 | 0, i, lo, hi, p, h1, h2, h => by
  simp only [nsF, Option.some.injEq] at h
  subst h; exact ⟨h1, h2⟩
 | f + 1, i, lo, hi, p, h1, h2, h => by
  rw [nsF] at h
  split at h
  ·
   exact nsF_in s f (i + 1) _ _ p (addLo_in _ h1) (addHi_in _ h2) h
  ·
   cases h
theorem ns_in (s : ByteArray) : InI (nsLo s) ∧ InI (nsHi s) := by
 unfold nsLo nsHi
 have h0 : InI 0 := by unfold InI; omega
 cases h : ns s 0 0 0 with
 | none => exact ⟨h0, h0⟩
 | some p => exact nsF_in s _ 0 0 0 p h0 h0 h
def SomeSet (w : World) (e : Ending) (w' : World) : Prop := ∃ (lo hi : Int) (b : Bool), InI lo ∧ InI hi ∧ e = .returned (.tuple #[.agg #[.int .i64 lo, .int .i64 hi], .bool b]) ∧ Bel w w'
set_option maxHeartbeats 1000000 in
theorem specRange_some (f u : Nat) (w : World) (hf : f < 256) (hu : u < 256) (h1 : f ≤ u) (h2 : u ≤ 127) :
  Calls Tryd.prog 71 #[.int .u8 f, .int .u8 u] w (SomeSet w) := by
 have w8 : ∀ k : Nat, k ≤ u → IntKind.u8.wrap (k : Int) = k := fun k hk => by rw [IntKind.wrap_u8]; omega
 have W8 := hide w8
 clear w8
 have d1 : decide (u < f) = false := by simp; omega
 have d2 : decide ((127 : Int) < (u : Int)) = false := by simp; omega
 have d3 : ¬ u < f := by omega
 go_enter Tryd.func71, Tryd.ntmps71
 go_wp2_with (fail)
 go_loopw [7] (fun i wr => ∃ (k : Nat) (lo hi : Int), i = .int .i64 k ∧ k ≤ u + 1 ∧ InI lo ∧ InI hi ∧ Box2 wr w.heap.size 0 0 ∧ Box2 wr (w.heap.size + 1) lo hi ∧ Bel w wr) (fun i _ => u + 1 - (intOf i).toNat)
 case atStart => exact ⟨f, 0, 0, rfl, by omega, by unfold InI; omega, by unfold InI; omega, ⟨by simp, by simp, by simp, by simp, by simp; omega⟩, ⟨by simp, by simp, by simp, by simp, by simp⟩, bl⟩
 case round =>
  obtain ⟨k, lo, hi, rfl, hk, hlo, hhi, R, C, hbw⟩ := hrel
  have hlo' := hide hlo
  have hhi' := hide hhi
  clear hlo hhi
  have R' := R
  have C' := C
  obtain ⟨r0, r1, r2, r3, r4⟩ := R'
  obtain ⟨c0, c1, c2, c3, c4⟩ := C'
  by_cases q : k ≤ u
  ·
   have hw := W8.out k q
   have hd : decide ((k : Int) ≤ (u : Int)) = true := by simp; omega
   go_wp2_with (go_at_call 78; refine (specAdd_any lo hi k _ (by omega)).mono ?_; rintro e w3 ⟨rfl, hb3⟩; have R3 := R.on hb3; have C3 := C.on hb3; obtain ⟨c0, c1, c2, c3, c4⟩ := C3)
   have R4 := R3.apart (b' := w.heap.size + 1) (by omega) (.int .i64 (addLo lo k)) (.int .i64 (addHi hi k))
   have C4 := Box2.put (⟨c0, c1, c2, c3, c4⟩ : Box2 w3 (w.heap.size + 1) lo hi) (addLo lo k) (addHi hi k)
   exact ⟨⟨k + 1, _, _, rfl, by omega, addLo_in _ hlo'.out, addHi_in _ hhi'.out, R4, C4, bl⟩, by simp only [intOf]; omega⟩
  ·
   have hd : decide ((k : Int) ≤ (u : Int)) = false := by simp; omega
   go_wp2_with (fail)
   have D := R.put lo hi
   obtain ⟨d0, d1, d2, d3, d4⟩ := D
   exact bodyPost_ret (v := .tuple #[.agg #[.int .i64 lo, .int .i64 hi], .bool true]) (by simp [results, Tryd.results71, d0, d1, go_sem]; try rfl) rfl ⟨lo, hi, true, hlo'.out, hhi'.out, rfl, bl⟩
end Go.Proofs.YtdacpljinffnaaaDoor
namespace Go.Proofs.YtdacpljinffnaaaDoor
set_option linter.unusedVariables false
set_option linter.unusedSimpArgs false
set_option maxRecDepth 100000
open Go.RowKit
set_option maxHeartbeats 400000 in
theorem specSubtractCsets_any (a0 a1 b0 b1 : Int) (w : World) :
  Calls Tryd.prog 72 #[.agg #[.int .i64 a0, .int .i64 a1], .agg #[.int .i64 b0, .int .i64 b1]] w fun e w' => e = .returned (.agg #[.int .i64 (bits .andNot .i64 a0 b0), .int .i64 (bits .andNot .i64 a1 b1)]) ∧ Bel w w' := by
 go_enter Tryd.func72, Tryd.ntmps72
 go_wp2
 go_returns
 exact ⟨rfl, bl⟩
def cmpl (x : Int) : Int := bits .xor .i64 (-1) x
set_option maxHeartbeats 400000 in
theorem specCompl_any (lo hi : Int) (w : World) :
  Calls Tryd.prog 69 #[.agg #[.int .i64 lo, .int .i64 hi]] w fun e w' => e = .returned (.agg #[.int .i64 (cmpl lo), .int .i64 (cmpl hi)]) ∧ Bel w w' := by
 go_enter Tryd.func69, Tryd.ntmps69
 go_wp2
 go_returns
 exact ⟨rfl, bl⟩
theorem gen_world1 {P : Program} {c : Code} {Q : Exit → Act → World → Prop} {a : Act} {W : World} (h : ∀ w2, Bel W w2 → Code.wp P c Q a w2) : Code.wp P c Q a W := h W (Bel.refl W)
end Go.Proofs.YtdacpljinffnaaaDoor
namespace Go.Proofs.YtdacpljinffnaaaDoor
set_option linter.unusedVariables false
set_option linter.unusedSimpArgs false
set_option maxRecDepth 100000
open Go.RowKit
def DrewC (w : World) (c : Nat) (A : Option Addr) (n cap : Nat) (e : Ending) (w' : World) : Prop :=
 ∃ lo hi : Int, InI lo ∧ InI hi ∧ e = .returned (.agg #[.int .i64 lo, .int .i64 hi]) ∧ Cur w' c A n cap ∧ Oth c w w'
theorem Box2.oth {w w' : World} {b c : Nat} {x y : Int} (h : Box2 w b x y) (hb : Oth c w w') (hn : b ≠ c) : Box2 w' b x y :=
 ⟨(hb.cell h.2.2.2.2 hn).trans h.1, (hb.cell h.2.2.2.2 hn).trans h.2.1, (hb.frozen h.2.2.2.2 hn).trans h.2.2.1, (hb.frozen h.2.2.2.2 hn).trans h.2.2.2.1, Nat.lt_of_lt_of_le h.2.2.2.2 hb.size⟩
theorem Box2.new {w : World} {t : TypeId} {x y : Int} : Box2 (w.alloc (.cells #[.int .i64 x, .int .i64 y] t)) w.heap.size x y := ⟨by simp, by simp, by simp, by simp, by simp⟩
theorem Oth.put2 {c : Nat} {w w' : World} {b : Nat} (h : Oth c w w') (hb : w.heap.size ≤ b) (u v : Value) : Oth c w ((w'.setCell ⟨b, 0, none⟩ u).setCell ⟨b, 1, none⟩ v) := by
 have k : Below w.heap.size w' ((w'.setCell ⟨b, 0, none⟩ u).setCell ⟨b, 1, none⟩ v) := Below.setCell (Below.setCell (Below.refl _ _) hb u) hb v
 exact ⟨k.os.trans h.os, k.tape.trans h.tape, k.output.trans h.output, Nat.le_trans h.size k.size, fun i hi hc => (k.block i hi).trans (h.block i hi hc)⟩
theorem Cur.fin {w w5 w' : World} {c : Nat} {A : Option Addr} {n cap : Nat} (h0 : Cur w c A n cap) (h5 : Cur w5 c A n cap) (k : Oth c w w') (hs : ∀ o, w'.cell? ⟨c, o, none⟩ = w5.cell? ⟨c, o, none⟩) (hf : ∀ o, w'.frozen? ⟨c, o, none⟩ = w5.frozen? ⟨c, o, none⟩) : Cur w' c A n cap := by
 obtain ⟨l, f, hB, i, x, hi, c0, c1, c2⟩ := h5
 exact h0.put k (fun o => (hf o).trans (f o)) i x hi ((hs 0).trans c0) ((hs 1).trans c1) ((hs 2).trans c2)
theorem Cur.fin2 {w w5 : World} {c b : Nat} {A : Option Addr} {n cap : Nat} {u v : Value} (h0 : Cur w c A n cap) (h5 : Cur w5 c A n cap) (k : Oth c w w5) (hb : w.heap.size ≤ b) (hn : b ≠ c) : Cur ((w5.setCell ⟨b, 0, none⟩ u).setCell ⟨b, 1, none⟩ v) c A n cap :=
 Cur.fin h0 h5 (k.put2 hb u v) (fun o => by rw [World.cell?_setCell_far _ _ _ _ hn, World.cell?_setCell_far _ _ _ _ hn]) (fun o => by simp)
set_option maxHeartbeats 2000000 in
theorem l2Draw_any (c : Nat) (A : Option Addr) (n cap : Nat) (w : World) (hc : Cur w c A n cap) :
  Calls Tryd.prog 57 #[.pointer (some ⟨c, 0, none⟩)] w (DrewC w c A n cap) := by
 have HC := hide hc
 have hlt := hc.1
 have hne : w.heap.size ≠ c := by omega
 clear hc
 go_enter Tryd.func57, Tryd.ntmps57
 go_upto_region 2 with (first
  | (go_at_call 37; refine (l1Pick_any (w.heap.size + 1) 8 20 8 c A n cap _ (HC.out.bel bl) (by have h := rowT_new (w := w.alloc (.cells #[.int .i64 0, .int .i64 0] 77)) (t := 9) 20 [⟨#[]⟩, ⟨#[97]⟩, ⟨#[97, 98, 99]⟩, ⟨#[120, 121, 122]⟩, ⟨#[48, 49, 50, 51, 52, 53, 54, 55, 56, 57]⟩, ⟨#[97, 101, 105, 111, 117]⟩, ⟨#[0, 63, 64, 127]⟩, ⟨#[32, 9, 10]⟩] (by decide +kernel); rw [World.size_alloc] at h; exact h) (by omega) (by omega) (by omega)).mono ?_; rintro e w1 ⟨x, hx, rfl, hC1, hO1⟩; have HC1 := hide hC1; have HO1 := hide (Oth.trans (Oth.of_bel (c := c) (w := w) bl) hO1); have R1 := hide (Box2.oth (Box2.on Box2.new bl) hO1 hne); clear hC1 hO1)
  | (go_at_call 68; refine (specNewCset_any x _ (by unfold maxLen; omega)).mono ?_; rintro e w2 ⟨rfl, hb2⟩; have hI := ns_in x; have hI1 := hide hI.1; have hI2 := hide hI.2; clear hI; generalize nsLo x = lo at hI1 ⊢; generalize nsHi x = hi at hI2 ⊢; generalize nsOk x = okx))
 refine gen_world1 fun w3 hb3 => ?_
 have hb23 : Bel w1 w3 := Bel.trans (Bel.alloc hb2 _) hb3
 have X3 := hide (Box2.on Box2.new hb3)
 have R3 := hide (R1.out.on hb23)
 have HC3 := hide (HC1.out.bel hb23)
 have HO3 := hide (HO1.out.trans (Oth.of_bel hb23))
 have hs2 : w.heap.size ≤ w2.heap.size := Nat.le_trans HO1.out.size hb2.size
 have hsc : w2.heap.size ≠ c := by have := HC1.out.1; have := hb2.size; omega
 have hsr : w2.heap.size ≠ w.heap.size := by have := R1.out.2.2.2.2; have := hb2.size; omega
 clear hb2 hb3 hb23 R1 HC1 HO1
 go_upto_region 3 with (go_at_call 12; refine (l1Below_any 5 c A n cap _ HC3.out (by unfold InI; omega)).mono ?_; rintro e w4 ⟨y, y1, y2, rfl, hC4, hO4⟩; have HC4 := hide hC4; have X4 := hide (X3.out.oth hO4 hsc); have R4 := hide (R3.out.oth hO4 hne); have HO4 := hide (HO3.out.trans hO4); clear hC4 hO4)
 have hR := R4.out
 obtain ⟨r0, r1, r2, r3, r4⟩ := hR
 have hX := X4.out
 obtain ⟨x0, x1, x2, x3, x4⟩ := hX
 rcases (show y = 0 ∨ y = 1 ∨ y = 2 ∨ (¬ y = 0 ∧ ¬ y = 1 ∧ ¬ y = 2) by omega) with rfl | rfl | rfl | ⟨q0, q1, q2⟩
 ·
  go_wp2_with (go_at_call 69; refine (specCompl_any lo hi _).mono ?_; rintro e w5 ⟨rfl, hb5⟩; have R5 := hide (R4.out.on hb5); have hR5 := R5.out; obtain ⟨r0, r1, r2, r3, r4⟩ := hR5; have HC5 := hide (HC4.out.bel hb5); have HO5 := hide (HO4.out.trans (Oth.of_bel hb5)); clear hb5)
  have D := R5.out.put (cmpl lo) (cmpl hi)
  obtain ⟨d0, d1, d2, d3, d4⟩ := D
  exact bodyPost_ret (v := .agg #[.int .i64 (cmpl lo), .int .i64 (cmpl hi)]) (by simp [results, Tryd.results57, d0, d1, go_sem]; try rfl) rfl ⟨_, _, inI_wrap _, inI_wrap _, rfl, Cur.fin2 HC.out HC5.out HO5.out (Nat.le_refl _) hne, HO5.out.put2 (Nat.le_refl _) _ _⟩
 ·
  go_wp2_with (first
   | ((with_reducible refine (l1Whole_any c A n cap w4 HC4.out).mono ?_); rintro e w5 ⟨y5, hy5, rfl, hC5, hO5⟩; have hy5' := hide hy5; have HC5 := hide hC5; have R5 := hide (R4.out.oth hO5 hne); have HO5 := hide (HO4.out.trans hO5); clear hy5 hC5 hO5)
   | ((with_reducible refine (l1Whole_any c A n cap w5 HC5.out).mono ?_); rintro e w6 ⟨y6, hy6, rfl, hC6, hO6⟩; have hy6' := hide hy6; have HC6 := hide hC6; have R6 := hide (R5.out.oth hO6 hne); have HO6 := hide (HO5.out.trans hO6); have hR6 := R6.out; obtain ⟨r0, r1, r2, r3, r4⟩ := hR6; clear hy6 hC6 hO6))
  have D := R6.out.put y5 y6
  obtain ⟨d0, d1, d2, d3, d4⟩ := D
  exact bodyPost_ret (v := .agg #[.int .i64 y5, .int .i64 y6]) (by simp [results, Tryd.results57, d0, d1, go_sem]; try rfl) rfl ⟨_, _, hy5'.out, hy6'.out, rfl, Cur.fin2 HC.out HC6.out HO6.out (Nat.le_refl _) hne, HO6.out.put2 (Nat.le_refl _) _ _⟩
 ·
  go_upto_region 9 with (first
   | ((with_reducible refine (l1Below_any 64 c A n cap w4 HC4.out (by unfold InI; omega)).mono ?_); rintro e w5 ⟨y5, a5, b5, rfl, hC5, hO5⟩; have b5' : y5 ≤ 63 := b5; clear b5; obtain ⟨f5, rfl⟩ := Int.eq_ofNat_of_zero_le a5; have g5 : IntKind.u8.wrap (f5 : Int) = (f5 : Int) := (by rw [IntKind.wrap_u8]; omega); have HC5 := hide hC5; have R5 := hide (R4.out.oth hO5 hne); have X5 := hide (X4.out.oth hO5 hsc); have HO5 := hide (HO4.out.trans hO5); clear hC5 hO5)
   | ((with_reducible refine (l1Below_any 64 c A n cap w5 HC5.out (by unfold InI; omega)).mono ?_); rintro e w6 ⟨y6, a6, b6, rfl, hC6, hO6⟩; have b6' : y6 ≤ 63 := b6; clear b6; obtain ⟨f6, rfl⟩ := Int.eq_ofNat_of_zero_le a6; have g6 : IntKind.u8.wrap (64 + (f6 : Int)) = (64 + (f6 : Int)) := (by rw [IntKind.wrap_u8]; omega); have HC6 := hide hC6; have R6 := hide (R5.out.oth hO6 hne); have X6 := hide (X5.out.oth hO6 hsc); have HO6 := hide (HO5.out.trans hO6); clear hC6 hO6)
   | (go_at_call 71; rw [show (64 + (f6 : Int)) = ((64 + f6 : Nat) : Int) by omega]; refine (specRange_some f5 (64 + f6) _ (by omega) (by omega) (by omega) (by omega)).mono ?_; rintro e w7 ⟨l7, h7, b7, i7, j7, rfl, hb7⟩; have i7' := hide i7; have j7' := hide j7; have HC7 := hide (HC6.out.bel hb7); have R7 := hide (R6.out.on hb7); have X7 := hide (X6.out.on hb7); have HO7 := hide (HO6.out.trans (Oth.of_bel hb7)); clear i7 j7 hb7))
  refine gen_world1 fun w8 hb8 => ?_
  have Y8 := hide (Box2.on Box2.new hb8)
  have hb78 : Bel w7 w8 := Bel.trans (Bel.alloc (Bel.refl _) _) hb8
  have R8 := hide (R7.out.on hb78)
  have X8 := hide (X7.out.on hb78)
  have HC8 := hide (HC7.out.bel hb78)
  have HO8 := hide (HO7.out.trans (Oth.of_bel hb78))
  have h8 := R8.out
  obtain ⟨r0, r1, r2, r3, r4⟩ := h8
  have h8 := X8.out
  obtain ⟨x0, x1, x2, x3, x4⟩ := h8
  have h8 := Y8.out
  obtain ⟨z0, z1, z2, z3, z4⟩ := h8
  go_wp2_with (go_at_call 72; refine (specSubtractCsets_any l7 h7 lo hi _).mono ?_; rintro e w9 ⟨rfl, hb9⟩; have R9 := hide (R8.out.on hb9); have h9 := R9.out; obtain ⟨r0, r1, r2, r3, r4⟩ := h9; have HC9 := hide (HC8.out.bel hb9); have HO9 := hide (HO8.out.trans (Oth.of_bel hb9)); clear hb9)
  have D := R9.out.put (bits .andNot .i64 l7 lo) (bits .andNot .i64 h7 hi)
  obtain ⟨d0, d1, d2, d3, d4⟩ := D
  exact bodyPost_ret (v := .agg #[.int .i64 (bits .andNot .i64 l7 lo), .int .i64 (bits .andNot .i64 h7 hi)]) (by simp [results, Tryd.results57, d0, d1, go_sem]; try rfl) rfl ⟨_, _, inI_wrap _, inI_wrap _, rfl, Cur.fin2 HC.out HC9.out HO9.out (Nat.le_refl _) hne, HO9.out.put2 (Nat.le_refl _) _ _⟩
 ·
  have p0 : (y == 0) = false := by simp [q0]
  have p1 : (y == 1) = false := by simp [q1]
  have p2 : (y == 2) = false := by simp [q2]
  clear q0 q1 q2
  go_wp2_with (fail)
  have D := R4.out.put lo hi
  obtain ⟨d0, d1, d2, d3, d4⟩ := D
  exact bodyPost_ret (v := .agg #[.int .i64 lo, .int .i64 hi]) (by simp [results, Tryd.results57, d0, d1, go_sem]; try rfl) rfl ⟨_, _, hI1.out, hI2.out, rfl, Cur.fin2 HC.out HC4.out HO4.out (Nat.le_refl _) hne, HO4.out.put2 (Nat.le_refl _) _ _⟩
end Go.Proofs.YtdacpljinffnaaaDoor
