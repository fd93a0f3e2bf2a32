/- Draws: a value, any. -/
import Derived.Test.YtficlopcolglnaaDoorF8
namespace Go.Proofs.YtficlopcolglnaaDoor
set_option linter.unusedVariables false
set_option linter.unusedSimpArgs false
set_option maxRecDepth 100000
open Go.RowKit

/-- A value comes back. -/
def DrewV (w : World) (c : Nat) (A : Option Addr) (n cap : Nat) (e : Ending) (w' : World) : Prop :=
  ∃ v : VVal, v.Ok ∧ e = .returned v.val ∧ Cur w' c A n cap ∧ Oth c w w'
theorem Z6.oth {w w' : World} {b c : Nat} (h : Z6 w b) (hb : Oth c w w') (hn : b ≠ c) : Z6 w' b := by
  obtain ⟨c0, c1, c2, c3, c4, c5, f, l⟩ := h
  exact ⟨(hb.cell l hn).trans c0, (hb.cell l hn).trans c1, (hb.cell l hn).trans c2, (hb.cell l hn).trans c3, (hb.cell l hn).trans c4, (hb.cell l hn).trans c5, fun o => (hb.frozen l hn).trans (f o), Nat.lt_of_lt_of_le l hb.size⟩
theorem gen_ret6o {P : Program} {fn : Func} {Q : Ending → World → Prop} {ex : Exit} {a : Act} {w : World} {b : Nat} {x0 x1 x2 x3 x4 x5 : Value} (h : Z6 w b)
    (H : ∀ w', w'.cell? ⟨b, 0, none⟩ = some x0 → w'.cell? ⟨b, 1, none⟩ = some x1 → w'.cell? ⟨b, 2, none⟩ = some x2 → w'.cell? ⟨b, 3, none⟩ = some x3 → w'.cell? ⟨b, 4, none⟩ = some x4 → w'.cell? ⟨b, 5, none⟩ = some x5 →
      (∀ (w0 : World) (c : Nat), Oth c w0 w → w0.heap.size ≤ b → Oth c w0 w') → (∀ b' o : Nat, b' ≠ b → w'.cell? ⟨b', o, none⟩ = w.cell? ⟨b', o, none⟩) → (∀ a : Addr, w'.frozen? a = w.frozen? a) → w.heap.size = w'.heap.size → bodyPost P fn Q ex a w') :
    bodyPost P fn Q ex a ((((((w.setCell ⟨b, 0, none⟩ x0).setCell ⟨b, 1, none⟩ x1).setCell ⟨b, 2, none⟩ x2).setCell ⟨b, 3, none⟩ x3).setCell ⟨b, 4, none⟩ x4).setCell ⟨b, 5, none⟩ x5) := by
  obtain ⟨d0, d1, d2, d3, d4, d5⟩ := h.put x0 x1 x2 x3 x4 x5
  refine H _ d0 d1 d2 d3 d4 d5 (fun w0 c ho hb => ?_) (fun b' o hn => ?_) (fun a => by simp) (by simp)
  · have k : Below w0.heap.size w ((((((w.setCell ⟨b, 0, none⟩ x0).setCell ⟨b, 1, none⟩ x1).setCell ⟨b, 2, none⟩ x2).setCell ⟨b, 3, none⟩ x3).setCell ⟨b, 4, none⟩ x4).setCell ⟨b, 5, none⟩ x5) :=
      Below.setCell (Below.setCell (Below.setCell (Below.setCell (Below.setCell (Below.setCell (Below.refl _ _) hb x0) hb x1) hb x2) hb x3) hb x4) hb x5
    exact ⟨k.os.trans ho.os, k.tape.trans ho.tape, k.output.trans ho.output, Nat.le_trans ho.size k.size, fun i hi hc => (k.block i hi).trans (ho.block i hi hc)⟩
  · rw [World.cell?_setCell_far _ _ _ _ (Ne.symm hn), World.cell?_setCell_far _ _ _ _ (Ne.symm hn), World.cell?_setCell_far _ _ _ _ (Ne.symm hn), World.cell?_setCell_far _ _ _ _ (Ne.symm hn), World.cell?_setCell_far _ _ _ _ (Ne.symm hn), World.cell?_setCell_far _ _ _ _ (Ne.symm hn)]
theorem in0 : InI 0 := by unfold InI; omega
theorem inI_small {x : Int} (h1 : -100 ≤ x) (h2 : x ≤ 100) : InI x := by unfold InI; omega

set_option maxHeartbeats 4000000 in
theorem l11Draw_any (c : Nat) (A : Option Addr) (n cap : Nat) (w : World) (hc : Cur w c A n cap) :
    Calls Tryd.prog 70 #[.pointer (some ⟨c, 0, none⟩)] w (DrewV w c A n cap) := by
  have HC := hide hc
  have hlt := hc.1
  have hne : w.heap.size ≠ c := by omega
  clear hc
  go_enter Tryd.func70, Tryd.ntmps70
  go_upto_region 2 with (go_at_call 64; refine (l1Below_any 7 c A n cap _ (HC.out.bel (by repeat' (first | exact Bel.refl _ | with_reducible assumption | refine Bel.trans ?_ (by with_reducible assumption) | refine Bel.alloc ?_ _ | refine Bel.drew ?_ | refine Bel.drewN ?_ _ | refine Bel.set ?_ ?_ _ | (simp; done) | (simp; omega)))) (by unfold InI; omega)).mono ?_; rintro e w1 ⟨y, y1, y2, rfl, hC1, hO1⟩; have HC1 := hide hC1; have HO1 := hide (Oth.trans (Oth.of_bel (c := c) (w := w) (by repeat' (first | exact Bel.refl _ | with_reducible assumption | refine Bel.trans ?_ (by with_reducible assumption) | refine Bel.alloc ?_ _ | refine Bel.drew ?_ | refine Bel.drewN ?_ _ | refine Bel.set ?_ ?_ _ | (simp; done) | (simp; omega)))) hO1); have Z1 := hide (Z6.oth Z6.new hO1 hne); clear hC1 hO1; have y3 : y ≤ 6 := y2; clear y2)
  have hZ := Z1.out
  obtain ⟨z0, z1, z2, z3, z4, z5, zf, zl⟩ := hZ
  rcases (show y = 0 ∨ y = 1 ∨ y = 2 ∨ y = 3 ∨ y = 4 ∨ y = 5 ∨ y = 6 by omega) with rfl | rfl | rfl | rfl | rfl | rfl | rfl
  · go_wp2_with (fail)
    refine gen_ret6o Z1.out fun wz d0 d1 d2 d3 d4 d5 ho hf hz _ => ?_
    exact bodyPost_ret (v := VVal.zero.val) (by simp [results, Tryd.results70, d0, d1, d2, d3, d4, d5, go_sem]; try rfl) rfl ⟨VVal.zero, ⟨in0, in0, in0, by decide, in0, in0⟩, rfl, Cur.fin HC.out HC1.out (ho _ _ HO1.out (Nat.le_refl _)) (fun o => hf _ _ (Ne.symm hne)) (fun o => hz _), ho _ _ HO1.out (Nat.le_refl _)⟩
  iterate 2
    · go_wp2_with (first
        | (go_at_call 69; refine (l1PickInt_any w1.heap.size 8 8 c A n cap _ (HC1.out.bel (by repeat' (first | exact Bel.refl _ | with_reducible assumption | refine Bel.trans ?_ (by with_reducible assumption) | refine Bel.alloc ?_ _ | refine Bel.drew ?_ | refine Bel.drewN ?_ _ | refine Bel.set ?_ ?_ _ | (simp; done) | (simp; omega)))) (rowI_new [0, 1, 2, 3, -1, 7, 999999999999, -999999999999] (by decide)) (by have := HC1.out.1; omega) (by omega) (by omega)).mono ?_; rintro e w2 ⟨x, hx, rfl, hC2, hO2⟩; have HC2 := hide hC2; have hx' := hide hx; have HO2 := hide (HO1.out.trans (Oth.trans (Oth.of_bel (by repeat' (first | exact Bel.refl _ | with_reducible assumption | refine Bel.trans ?_ (by with_reducible assumption) | refine Bel.alloc ?_ _ | refine Bel.drew ?_ | refine Bel.drewN ?_ _ | refine Bel.set ?_ ?_ _ | (simp; done) | (simp; omega)))) hO2)); have Z2 := hide (Z6.oth (Z1.out.on (w' := w1.alloc _) (by repeat' (first | exact Bel.refl _ | with_reducible assumption | refine Bel.trans ?_ (by with_reducible assumption) | refine Bel.alloc ?_ _ | refine Bel.drew ?_ | refine Bel.drewN ?_ _ | refine Bel.set ?_ ?_ _ | (simp; done) | (simp; omega)))) hO2 hne); clear hC2 hO2 hx)
        | (go_at_call 68; refine (l11Int_ex x _).mono ?_; rintro e w3 ⟨rfl, hb3⟩; have HC3 := hide (HC2.out.bel hb3); have HO3 := hide (HO2.out.trans (Oth.of_bel hb3)); have Z3 := hide (Z2.out.on hb3); have h3 := Z3.out; obtain ⟨z0, z1, z2, z3, z4, z5, zf, zl⟩ := h3; clear hb3))
      refine gen_ret6o Z3.out fun wz d0 d1 d2 d3 d4 d5 ho hf hz _ => ?_
      exact bodyPost_ret (v := (VVal.ofInt x).val) (by simp [results, Tryd.results70, d0, d1, d2, d3, d4, d5, go_sem]; try rfl) rfl ⟨VVal.ofInt x, ⟨inI_small (by show -100 ≤ (1 : Int); decide) (by show (1 : Int) ≤ 100; decide), hx'.out, in0, by show ByteArray.empty.size ≤ maxLen; decide, in0, in0⟩, rfl, Cur.fin HC.out HC3.out (ho _ _ HO3.out (Nat.le_refl _)) (fun o => hf _ _ (Ne.symm hne)) (fun o => hz _), ho _ _ HO3.out (Nat.le_refl _)⟩
  iterate 2
    · go_wp2_with (first
        | (go_at_call 67; refine (l3Word_any c A n cap _ HC1.out).mono ?_; rintro e w2 ⟨x, hx, rfl, hC2, hO2⟩; have HC2 := hide hC2; have HO2 := hide (HO1.out.trans hO2); have Z2 := hide (Z1.out.oth hO2 hne); clear hC2 hO2)
        | (go_at_call 66; refine (l11Text_ex _ _).mono ?_; rintro e w3 ⟨rfl, hb3⟩; have HC3 := hide (HC2.out.bel hb3); have HO3 := hide (HO2.out.trans (Oth.of_bel hb3)); have Z3 := hide (Z2.out.on hb3); have h3 := Z3.out; obtain ⟨z0, z1, z2, z3, z4, z5, zf, zl⟩ := h3; clear hb3))
      refine gen_ret6o Z3.out fun wz d0 d1 d2 d3 d4 d5 ho hf hz _ => ?_
      exact bodyPost_ret (v := (VVal.ofText x).val) (by simp [results, Tryd.results70, d0, d1, d2, d3, d4, d5, go_sem]; try rfl) rfl ⟨VVal.ofText x, ⟨inI_small (by show -100 ≤ (2 : Int); decide) (by show (2 : Int) ≤ 100; decide), in0, in0, by show x.size ≤ maxLen; unfold maxLen; omega, in0, in0⟩, rfl, Cur.fin HC.out HC3.out (ho _ _ HO3.out (Nat.le_refl _)) (fun o => hf _ _ (Ne.symm hne)) (fun o => hz _), ho _ _ HO3.out (Nat.le_refl _)⟩
  · go_wp2_with (first
      | (go_at_call 85; refine (l2Draw_any c A n cap _ HC1.out).mono ?_; rintro e w2 ⟨lo, hi, h1, h2, rfl, hC2, hO2⟩; have h1' := hide h1; have h2' := hide h2; have HC2 := hide hC2; have HO2 := hide (HO1.out.trans hO2); have Z2 := hide (Z1.out.oth hO2 hne); clear hC2 hO2 h1 h2)
      | (go_at_call 80; refine (l11Cset_any lo hi _).mono ?_; rintro e w3 ⟨rfl, hb3⟩; have HC3 := hide (HC2.out.bel hb3); have HO3 := hide (HO2.out.trans (Oth.of_bel hb3)); have Z3 := hide (Z2.out.on hb3); have h3 := Z3.out; obtain ⟨z0, z1, z2, z3, z4, z5, zf, zl⟩ := h3; clear hb3))
    refine gen_ret6o Z3.out fun wz d0 d1 d2 d3 d4 d5 ho hf hz _ => ?_
    exact bodyPost_ret (v := (VVal.ofSet lo hi).val) (by simp [results, Tryd.results70, d0, d1, d2, d3, d4, d5, go_sem]; try rfl) rfl ⟨VVal.ofSet lo hi, ⟨inI_small (by show -100 ≤ (3 : Int); decide) (by show (3 : Int) ≤ 100; decide), in0, in0, by show ByteArray.empty.size ≤ maxLen; decide, h1'.out, h2'.out⟩, rfl, Cur.fin HC.out HC3.out (ho _ _ HO3.out (Nat.le_refl _)) (fun o => hf _ _ (Ne.symm hne)) (fun o => hz _), ho _ _ HO3.out (Nat.le_refl _)⟩
  · go_wp2_with (first
      | ((with_reducible refine (l1Below_any 23 c A n cap w1 HC1.out (by unfold InI; omega)).mono ?_); rintro e w2 ⟨a2, p2, q2, rfl, hC2, hO2⟩; have r2 : a2 ≤ 22 := q2; clear q2; have HC2 := hide hC2; have HO2 := hide (HO1.out.trans hO2); have Z2 := hide (Z1.out.oth hO2 hne); clear hC2 hO2)
      | ((with_reducible refine (l1Below_any 5 c A n cap w2 HC2.out (by unfold InI; omega)).mono ?_); rintro e w3 ⟨a3, p3, q3, rfl, hC3, hO3⟩; have r3 : a3 ≤ 4 := q3; clear q3; have HC3 := hide hC3; have HO3 := hide (HO2.out.trans hO3); have Z3 := hide (Z2.out.oth hO3 hne); clear hC3 hO3)
      | ((with_reducible refine (l1Below_any 4 c A n cap w3 HC3.out (by unfold InI; omega)).mono ?_); rintro e w4 ⟨a4, p4, q4, rfl, hC4, hO4⟩; have r4 : a4 ≤ 3 := q4; clear q4; have HC4 := hide hC4; have HO4 := hide (HO3.out.trans hO4); have Z4 := hide (Z3.out.oth hO4 hne); clear hC4 hO4)
      | (go_at_call 83; refine (l1Pick_any w4.heap.size 4 1 4 c A n cap _ (HC4.out.bel (by repeat' (first | exact Bel.refl _ | with_reducible assumption | refine Bel.trans ?_ (by with_reducible assumption) | refine Bel.alloc ?_ _ | refine Bel.drew ?_ | refine Bel.drewN ?_ _ | refine Bel.set ?_ ?_ _ | (simp; done) | (simp; omega)))) (rowT_new 1 [⟨#[]⟩, ⟨#[]⟩, ⟨#[]⟩, ⟨#[113]⟩] (by decide +kernel)) (by have := HC4.out.1; omega) (by omega) (by omega)).mono ?_; rintro e w5 ⟨x, hx, rfl, hC5, hO5⟩; have hx' := hide hx; have HC5 := hide hC5; have HO5 := hide (HO4.out.trans (Oth.trans (Oth.of_bel (by repeat' (first | exact Bel.refl _ | with_reducible assumption | refine Bel.trans ?_ (by with_reducible assumption) | refine Bel.alloc ?_ _ | refine Bel.drew ?_ | refine Bel.drewN ?_ _ | refine Bel.set ?_ ?_ _ | (simp; done) | (simp; omega)))) hO5)); have Z5 := hide (Z6.oth (Z4.out.on (w' := w4.alloc _) (by repeat' (first | exact Bel.refl _ | with_reducible assumption | refine Bel.trans ?_ (by with_reducible assumption) | refine Bel.alloc ?_ _ | refine Bel.drew ?_ | refine Bel.drewN ?_ _ | refine Bel.set ?_ ?_ _ | (simp; done) | (simp; omega)))) hO5 hne); have h5 := Z5.out; obtain ⟨z0, z1, z2, z3, z4, z5, zf, zl⟩ := h5; clear hC5 hO5 hx))
    refine gen_ret6o Z5.out fun wz d0 d1 d2 d3 d4 d5 ho hf hz _ => ?_
    exact bodyPost_ret (v := (VVal.mk (a2 - 1) (a3 - 1) (a4 - 1) x 0 0).val) (by simp [results, Tryd.results70, d0, d1, d2, d3, d4, d5, go_sem]; try rfl) rfl ⟨⟨a2 - 1, a3 - 1, a4 - 1, x, 0, 0⟩, ⟨inI_small (by show -100 ≤ a2 - 1; omega) (by show a2 - 1 ≤ 100; omega), inI_small (by show -100 ≤ a3 - 1; omega) (by show a3 - 1 ≤ 100; omega), inI_small (by show -100 ≤ a4 - 1; omega) (by show a4 - 1 ≤ 100; omega), by have := hx'.out; show x.size ≤ maxLen; unfold maxLen; omega, in0, in0⟩, rfl, Cur.fin HC.out HC5.out (ho _ _ HO5.out (Nat.le_refl _)) (fun o => hf _ _ (Ne.symm hne)) (fun o => hz _), ho _ _ HO5.out (Nat.le_refl _)⟩

end Go.Proofs.YtficlopcolglnaaDoor
