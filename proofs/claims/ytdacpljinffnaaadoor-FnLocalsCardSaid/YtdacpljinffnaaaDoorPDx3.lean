/- Draws of units: an expression without kids. -/
import Derived.Test.YtdacpljinffnaaaDoorPJp
import Derived.Test.YtdacpljinffnaaaDoorPF7
import Derived.Test.YtdacpljinffnaaaDoorPBits
namespace Go.Proofs.YtdacpljinffnaaaDoor
set_option linter.unusedVariables false
set_option linter.unusedSimpArgs false
set_option maxRecDepth 100000
open Go.RowKit
def LeafP (w : World) (c : Nat) (A : Option Addr) (n cap : Nat) (e : Ending) (w' : World) : Prop :=
 ∃ (k : Int) (t : ByteArray) (m : Int), InI k ∧ t.size ≤ 128 ∧ InI m ∧ e = .returned (.agg #[.int .i64 k, .string t, .int .i64 m, .int .i64 0, .slice none 0 0]) ∧ Cur w' c A n cap ∧ Oth c w w'
theorem LeafP.expr {w w' : World} {c : Nat} {A : Option Addr} {n cap : Nat} {e : Ending} (h : LeafP w c A n cap e w') (d : Nat) : ExprP w c A n cap (wE d) e w' := by
 obtain ⟨k, t, m, h1, h2, h3, rfl, h4, h5⟩ := h
 have hp : 0 < 7 ^ d := Nat.pow_pos (by decide)
 refine ⟨.mk k t m 0 [], _, [], rfl, TExpr.own_mk h1 (by unfold maxLen; omega) h3 (by unfold InI; omega) (OwnRow.nil _ 5 none 0 (by unfold maxLen; omega)), List.nodup_nil, (fun x hx => (by cases hx)), ?_, h4, h5⟩
 rw [TExpr.D_mk]
 simp only [Dat.wtL, Dat.wt, Dat.wtR, List.map_nil, List.length_nil]
 unfold wE
 omega
theorem csText_size (lo hi : Int) : (csText lo hi).size ≤ 128 := by
 have := csB_len lo hi 128
 unfold csText
 simp only [ByteArray.size, List.size_toArray, List.length_map]
 exact this
theorem gen_ret5 {P : Program} {fn : Func} {Q : Ending → World → Prop} {ex : Exit} {a : Act} {w : World} {b : Nat} {y0 y1 y2 y3 y4 x0 x1 x2 x3 x4 : Value} (h : EB w b y0 y1 y2 y3 y4)
  (H : ∀ w', EB w' b x0 x1 x2 x3 x4 → (∀ (w0 : World) (c : Nat), Oth c w0 w → w0.heap.size ≤ b → Oth c w0 w') → (∀ k, b ≠ k → w'.heap[k]? = w.heap[k]?) → bodyPost P fn Q ex a w') :
  bodyPost P fn Q ex a (((((w.setCell ⟨b, 0, none⟩ x0).setCell ⟨b, 1, none⟩ x1).setCell ⟨b, 2, none⟩ x2).setCell ⟨b, 3, none⟩ x3).setCell ⟨b, 4, none⟩ x4) :=
 H _ (((((h.put0 _).put1 _).put2 _).put3 _).put4 _) (fun w0 c ho hb => ((((ho.put hb 0 _).put hb 1 _).put hb 2 _).put hb 3 _).put hb 4 _) (fun k hk => by rw [set_block 4 _ hk, set_block 3 _ hk, set_block 2 _ hk, set_block 1 _ hk, set_block 0 _ hk])
set_option maxHeartbeats 1000000 in
theorem l4Text_any (c : Nat) (A : Option Addr) (n cap : Nat) (w : World) (hc : Cur w c A n cap) : Calls Tryd.prog 55 #[.pointer (some ⟨c, 0, none⟩)] w (DrewT w c A n cap 20) := by
 have HC := hide hc
 clear hc
 go_enter Tryd.func55, Tryd.ntmps55
 go_wp2_with (go_at_call 37; refine (l1Pick_any w.heap.size 9 20 9 c A n cap _ (HC.out.bel bl) (rowT_new 20 [⟨#[]⟩, ⟨#[97, 34, 98]⟩, ⟨#[105, 116, 39, 115]⟩, ⟨#[116, 97, 98, 9, 104, 101, 114, 101]⟩, ⟨#[108, 105, 110, 101, 10, 101, 110, 100]⟩, ⟨#[98, 97, 99, 107, 92, 115, 108, 97, 115, 104]⟩, ⟨#[0, 127]⟩, ⟨#[255]⟩, ⟨#[112, 108, 97, 105, 110]⟩] (by decide +kernel)) (by have := HC.out.1; omega) (by omega) (by omega)).mono ?_; rintro e w2 ⟨x, hx, rfl, hC2, hO2⟩; have HX := hide hx; have HC2 := hide hC2; have HO2 := hide (Oth.trans (Oth.of_bel (c := c) (w := w) bl) hO2); clear hC2 hO2 hx)
 all_goals
  go_returns
  exact ⟨x, HX.out, rfl, HC2.out, HO2.out⟩
set_option maxHeartbeats 4000000 in
theorem l6Leaf_any (c : Nat) (A : Option Addr) (n cap : Nat) (w : World) (hc : Cur w c A n cap) :
  Calls Tryd.prog 39 #[.pointer (some ⟨c, 0, none⟩)] w (LeafP w c A n cap) := by
 have HC := hide hc
 have hlt := hc.1
 have hne : w.heap.size ≠ c := by omega
 clear hc
 go_enter Tryd.func39, Tryd.ntmps39
 go_upto_region 2 with (go_at_call 12; refine (l1Below_any 6 c A n cap _ (HC.out.bel bl) (by unfold InI; omega)).mono ?_; rintro e w1 ⟨y, y1, y2, rfl, hC1, hO1⟩; have HC1 := hide hC1; have HO1 := hide (Oth.trans (Oth.of_bel (c := c) (w := w) bl) hO1); have Z1 := hide (EB.oth (EB.new w 42) hO1 hne); clear hC1 hO1; have y3 : y ≤ 5 := y2; clear y2)
 have hZ := Z1.out
 obtain ⟨zl, zf, z0, z1, z2, z3, z4⟩ := hZ

 rcases (show y = 0 ∨ y = 1 ∨ y = 2 ∨ y = 3 ∨ y = 4 ∨ y = 5 by omega) with rfl | rfl | rfl | rfl | rfl | rfl
 ·
  go_wp2_with (go_at_call 38; refine (l1PickInt_P InI w1.heap.size 5 5 c A n cap _ (HC1.out.bel bl) (rowP_new [0, 1, 2, 10, 999999999999] (by unfold InI; decide)) (by have := HC1.out.1; omega) (by omega) (by omega)).mono ?_; rintro e w2 ⟨x2, hx, rfl, hC2, hO2⟩; have HX2 := hide hx; have HC2 := hide hC2; have HO2 := hide (HO1.out.trans (Oth.trans (Oth.of_bel bl) hO2)); have Z2 := hide (EB.oth (Z1.out.on (w' := w1.alloc _) bl) hO2 hne); clear hC2 hO2; clear hx; have h2 := Z2.out; obtain ⟨zl, zf, z0, z1, z2, z3, z4⟩ := h2)
  refine gen_ret5 Z2.out fun wz hE ho hz => ?_
  obtain ⟨-, -, d0, d1, d2, d3, d4⟩ := hE
  exact bodyPost_ret (v := .agg #[.int .i64 1, .string ByteArray.empty, .int .i64 x2, .int .i64 0, .slice none 0 0]) (by simp [results, Tryd.results39, d0, d1, d2, d3, d4, go_sem]; try rfl) rfl ⟨1, ByteArray.empty, x2, (by unfold InI; omega), (by decide), HX2.out, rfl, HC.out.back HC2.out (ho _ _ HO2.out (Nat.le_refl _)) (hz _ hne), ho _ _ HO2.out (Nat.le_refl _)⟩
 ·
  go_wp2_with (go_at_call 55; refine (l4Text_any c A n cap _ HC1.out).mono ?_; rintro e w2 ⟨x2, hx, rfl, hC2, hO2⟩; have HX2 := hide hx; have HC2 := hide hC2; have HO2 := hide (HO1.out.trans hO2); have Z2 := hide (Z1.out.oth hO2 hne); clear hC2 hO2; clear hx; have h2 := Z2.out; obtain ⟨zl, zf, z0, z1, z2, z3, z4⟩ := h2)
  refine gen_ret5 Z2.out fun wz hE ho hz => ?_
  obtain ⟨-, -, d0, d1, d2, d3, d4⟩ := hE
  exact bodyPost_ret (v := .agg #[.int .i64 2, .string x2, .int .i64 0, .int .i64 0, .slice none 0 0]) (by simp [results, Tryd.results39, d0, d1, d2, d3, d4, go_sem]; try rfl) rfl ⟨2, x2, 0, (by unfold InI; omega), (by have := HX2.out; omega), (by unfold InI; omega), rfl, HC.out.back HC2.out (ho _ _ HO2.out (Nat.le_refl _)) (hz _ hne), ho _ _ HO2.out (Nat.le_refl _)⟩
 ·
  go_wp2_with (first | (go_at_call 57; refine (l2Draw_any c A n cap _ HC1.out).mono ?_; rintro e w2 ⟨lo, hi, q1, q2, rfl, hC2, hO2⟩; have HC2 := hide hC2; have HO2 := hide (HO1.out.trans hO2); have Z2 := hide (Z1.out.oth hO2 hne); clear hC2 hO2; clear q1 q2) | (go_at_call 56; refine (specCsetText_any lo hi _).mono ?_; rintro e w3 ⟨rfl, hb3⟩; have HC3 := hide (HC2.out.bel hb3); have HO3 := hide (HO2.out.trans (Oth.of_bel hb3)); have Z3 := hide (Z2.out.on hb3); clear hb3; have hcs := csText_size lo hi; generalize csText lo hi = tx at hcs ⊢; have h3 := Z3.out; obtain ⟨zl, zf, z0, z1, z2, z3, z4⟩ := h3))
  refine gen_ret5 Z3.out fun wz hE ho hz => ?_
  obtain ⟨-, -, d0, d1, d2, d3, d4⟩ := hE
  exact bodyPost_ret (v := .agg #[.int .i64 3, .string tx, .int .i64 0, .int .i64 0, .slice none 0 0]) (by simp [results, Tryd.results39, d0, d1, d2, d3, d4, go_sem]; try rfl) rfl ⟨3, tx, 0, (by unfold InI; omega), hcs, (by unfold InI; omega), rfl, HC.out.back HC3.out (ho _ _ HO3.out (Nat.le_refl _)) (hz _ hne), ho _ _ HO3.out (Nat.le_refl _)⟩
 ·
  go_wp2_with (go_at_call 37; refine (l1Pick_any w1.heap.size 5 20 5 c A n cap _ (HC1.out.bel bl) (rowT_new 20 [⟨#[110, 117, 108, 108]⟩, ⟨#[102, 97, 105, 108]⟩, ⟨#[112, 111, 115]⟩, ⟨#[115, 117, 98, 106, 101, 99, 116]⟩, ⟨#[100, 105, 103, 105, 116, 115]⟩] (by decide +kernel)) (by have := HC1.out.1; omega) (by omega) (by omega)).mono ?_; rintro e w2 ⟨x2, hx, rfl, hC2, hO2⟩; have HX2 := hide hx; have HC2 := hide hC2; have HO2 := hide (HO1.out.trans (Oth.trans (Oth.of_bel bl) hO2)); have Z2 := hide (EB.oth (Z1.out.on (w' := w1.alloc _) bl) hO2 hne); clear hC2 hO2; clear hx; have h2 := Z2.out; obtain ⟨zl, zf, z0, z1, z2, z3, z4⟩ := h2)
  refine gen_ret5 Z2.out fun wz hE ho hz => ?_
  obtain ⟨-, -, d0, d1, d2, d3, d4⟩ := hE
  exact bodyPost_ret (v := .agg #[.int .i64 5, .string x2, .int .i64 0, .int .i64 0, .slice none 0 0]) (by simp [results, Tryd.results39, d0, d1, d2, d3, d4, go_sem]; try rfl) rfl ⟨5, x2, 0, (by unfold InI; omega), (by have := HX2.out; omega), (by unfold InI; omega), rfl, HC.out.back HC2.out (ho _ _ HO2.out (Nat.le_refl _)) (hz _ hne), ho _ _ HO2.out (Nat.le_refl _)⟩
 ·
  go_wp2_with (first | (go_at_call 38; refine (l1PickInt_P InI w1.heap.size 4 4 c A n cap _ (HC1.out.bel bl) (rowP_new [4, 4, 4, 28] (by unfold InI; decide)) (by have := HC1.out.1; omega) (by omega) (by omega)).mono ?_; rintro e w2 ⟨x2, hx, rfl, hC2, hO2⟩; have HX2 := hide hx; have HC2 := hide hC2; have HO2 := hide (HO1.out.trans (Oth.trans (Oth.of_bel bl) hO2)); have Z2 := hide (EB.oth (Z1.out.on (w' := w1.alloc _) bl) hO2 hne); clear hC2 hO2; clear hx) | (go_at_call 37; refine (l1Pick_any w2.heap.size 4 20 4 c A n cap _ (HC2.out.bel bl) (rowT_new 20 [⟨#[120]⟩, ⟨#[121]⟩, ⟨#[102, 111, 111]⟩, ⟨#[97, 95, 49]⟩] (by decide +kernel)) (by have := HC2.out.1; omega) (by omega) (by omega)).mono ?_; rintro e w3 ⟨x3, hx, rfl, hC3, hO3⟩; have HX3 := hide hx; have HC3 := hide hC3; have HO3 := hide (HO2.out.trans (Oth.trans (Oth.of_bel bl) hO3)); have Z3 := hide (EB.oth (Z2.out.on (w' := w2.alloc _) bl) hO3 hne); clear hC3 hO3; clear hx; have h3 := Z3.out; obtain ⟨zl, zf, z0, z1, z2, z3, z4⟩ := h3))
  refine gen_ret5 Z3.out fun wz hE ho hz => ?_
  obtain ⟨-, -, d0, d1, d2, d3, d4⟩ := hE
  exact bodyPost_ret (v := .agg #[.int .i64 x2, .string x3, .int .i64 0, .int .i64 0, .slice none 0 0]) (by simp [results, Tryd.results39, d0, d1, d2, d3, d4, go_sem]; try rfl) rfl ⟨x2, x3, 0, HX2.out, (by have := HX3.out; omega), (by unfold InI; omega), rfl, HC.out.back HC3.out (ho _ _ HO3.out (Nat.le_refl _)) (hz _ hne), ho _ _ HO3.out (Nat.le_refl _)⟩
 ·
  go_wp2_with (go_at_call 38; refine (l1PickInt_P InI w1.heap.size 7 7 c A n cap _ (HC1.out.bel bl) (rowP_new [14, 21, 22, 23, 24, 25, 6] (by unfold InI; decide)) (by have := HC1.out.1; omega) (by omega) (by omega)).mono ?_; rintro e w2 ⟨x2, hx, rfl, hC2, hO2⟩; have HX2 := hide hx; have HC2 := hide hC2; have HO2 := hide (HO1.out.trans (Oth.trans (Oth.of_bel bl) hO2)); have Z2 := hide (EB.oth (Z1.out.on (w' := w1.alloc _) bl) hO2 hne); clear hC2 hO2; clear hx; have h2 := Z2.out; obtain ⟨zl, zf, z0, z1, z2, z3, z4⟩ := h2)
  refine gen_ret5 Z2.out fun wz hE ho hz => ?_
  obtain ⟨-, -, d0, d1, d2, d3, d4⟩ := hE
  exact bodyPost_ret (v := .agg #[.int .i64 x2, .string ByteArray.empty, .int .i64 0, .int .i64 0, .slice none 0 0]) (by simp [results, Tryd.results39, d0, d1, d2, d3, d4, go_sem]; try rfl) rfl ⟨x2, ByteArray.empty, 0, HX2.out, (by decide), (by unfold InI; omega), rfl, HC.out.back HC2.out (ho _ _ HO2.out (Nat.le_refl _)) (hz _ hne), ho _ _ HO2.out (Nat.le_refl _)⟩
end Go.Proofs.YtdacpljinffnaaaDoor
