/- The reference's evaluation: operations with a loop over first endings; a definition. -/
import Derived.Test.YtdjbfneniohaaaaPJ4
import Derived.Deep.RegionHeld3
import Derived.Deep.Cut
import Derived.OwnWalk
namespace Go.Proofs.Ytdjbfneniohaaaa
set_option linter.unusedVariables false
set_option linter.unusedSimpArgs false
set_option maxRecDepth 100000
open Go.RowKit
set_option maxHeartbeats 4000000 in
theorem l19Ends_14 (w0 : World) (ds : List TPattern) (s : ByteArray) (M : Nat) (A : Option Addr) (c d : Nat) (t : ByteArray) (n lo hi : Int) (p q : TPattern) (hs : s.size ≤ 120) (hd : d ≤ 2999) (w : World) (vs : List Value) (S : Nat → Prop) (g a : Nat) (hq : Dat.HoldVals w0 S (TPattern.mk 14 t n lo hi [p, q]).D vs) (hb0 : Bel w0 w) (hM : w0.heap.size ≤ M) (hst : StE w M A ds.length c s ((g : Int) + 1)) (hg : g ≤ d) (ha : a ≤ s.size) (hds : ∀ q ∈ ds, q.vld ds.length = true) (IH : ∀ q, q.vld ds.length = true → SpecC w0 ds s M A c d q) (hv : (TPattern.mk 14 t n lo hi [p, q]).vld ds.length = true) :
  Calls Try.prog 32 #[.pointer (some ⟨M, 0, none⟩), .agg vs.toArray, .int .i64 a] w (EndsPost w M A ds.length c s ((g : Int) + 1) (endsE ds s (d + 1) (g + 1) (.mk 14 t n lo hi [p, q]) a)) := by
 obtain ⟨hvp, hvq⟩ := TPattern.vld2 hv
 obtain ⟨Aq, cq, rfl, gop, gt, gn, glo, ghi, gR⟩ := TPattern.vals hq
 have HQ := hide hq
 have HRQ := hide gR
 have HST := hide hst
 have HB0 := hide hb0
 obtain ⟨hM1, hMf, m0, m1, m2⟩ := hst
 have hqc := gR.1
 have hqm := gR.2.1
 simp only [List.length_map, List.length_cons, List.length_nil, Nat.reduceAdd] at hqc
 unfold maxLen at hqm gt
 clear hq gR hb0
 have hw0 : IntKind.i64.wrap ((g : Int) + 1 - 1) = (g : Int) := by rw [IntKind.wrap_i64]; omega
 have hg0 : decide ((g : Int) < 0) = false := by simp
 have hne : ¬ M = w.heap.size := by omega
 have hne2 : ¬ w.heap.size = M := by omega
 go_enter Try.func32, Try.ntmps32
 go_upto_region 5 with (fail)
 refine wp_namedJ fun wA hwA => ?_
 have k0 : wA.cell? ⟨w.heap.size, 0, none⟩ = some (.int .i64 14) := by rw [← hwA]; simp [go_sem]
 have k1 : wA.cell? ⟨w.heap.size, 1, none⟩ = some (.string t) := by rw [← hwA]; simp [go_sem]
 have k2 : wA.cell? ⟨w.heap.size, 2, none⟩ = some (.int .i64 n) := by rw [← hwA]; simp [go_sem]
 have k3 : wA.cell? ⟨w.heap.size, 3, none⟩ = some (.int .i64 lo) := by rw [← hwA]; simp [go_sem]
 have k4 : wA.cell? ⟨w.heap.size, 4, none⟩ = some (.int .i64 hi) := by rw [← hwA]; simp [go_sem]
 have k5 : wA.cell? ⟨w.heap.size, 5, none⟩ = some (.slice Aq 2 cq) := by rw [← hwA]; simp [go_sem]
 have hzA : wA.heap.size = w.heap.size + 2 := by rw [← hwA]; simp
 have hlA : w.heap.size < wA.heap.size := by omega
 have hMA : M < wA.heap.size := by omega
 have hnA : ¬ w.heap.size = wA.heap.size := by omega
 have hnM : ¬ M = wA.heap.size := by omega
 have HZA := hide hzA
 have HFA := hide (show OffS (fun b => b ≠ M) w wA by rw [← hwA]; exact osl)
 have HSA := hide (show StE wA M A ds.length c s (g : Int) by rw [← hwA]; exact StE.bel (StE.put HST.out _) bl)
 have HBA := hide (show Bel w0 wA from HFA.out.toBel HB0.out (fun x hx => by omega))
 have hInA : InI (a : Int) := by unfold InI; omega
 have HHA := hide (show OwnD wA 36 2 (.slice (some ⟨w.heap.size + 1, 0, none⟩) 1 1) [] [(TEnding.mk a []).D] by rw [← hwA]; have h := OwnD.lit1 (k := 2) ((w.setCell ⟨M, 2, none⟩ (.int .i64 g)).alloc (.cells #[.int .i64 14, .string t, .int .i64 n, .int .i64 lo, .int .i64 hi, .slice Aq 2 cq] 28)) 36 (TEnding.own_mk (x0 := (a : Int)) (x1 := []) hInA (OwnRow.nil _ 3 none 0 (by unfold maxLen; omega))) rfl List.nodup_nil; simpa using h)
 clear hwA hzA m0 m1 m2
 obtain ⟨-, hfA, m0, m1, m2⟩ := HSA.out
 obtain ⟨b1, o1, y1_0, y1_1, y1_2, y1_3, y1_4, y1_5, A1_5, C1_5, hA1, hS1, hl1, hx1, hv1, g1_0, g1_1, g1_2, g1_3, g1_4, g1_5, c1_0, c1_1, c1_2, c1_3, c1_4, c1_5⟩ := TPattern.at (l := [p, q]) HRQ.out 0 (by simp)
 subst hA1
 have HV1 := hide (show Dat.HoldVals w0 S p.D _ from hv1)
 clear hv1 hx1 hS1 g1_0 g1_1 g1_2 g1_3 g1_4 g1_5
 have hlb1 : b1 < wA.heap.size := Nat.lt_of_lt_of_le hl1 (Bel.size HBA.out)
 have hnb1 : ¬ b1 = w.heap.size := by have := Bel.size HB0.out; omega
 have hMb1 : b1 ≠ M := by omega
 replace c1_0 := (HBA.out.box b1 hl1 _).trans c1_0
 replace c1_1 := (HBA.out.box b1 hl1 _).trans c1_1
 replace c1_2 := (HBA.out.box b1 hl1 _).trans c1_2
 replace c1_3 := (HBA.out.box b1 hl1 _).trans c1_3
 replace c1_4 := (HBA.out.box b1 hl1 _).trans c1_4
 replace c1_5 := (HBA.out.box b1 hl1 _).trans c1_5
 simp only [Nat.zero_mul, Nat.one_mul, Nat.add_zero, Nat.reduceMul, Nat.add_assoc, Nat.reduceAdd] at c1_0 c1_1 c1_2 c1_3 c1_4 c1_5
 obtain ⟨b2, o2, y2_0, y2_1, y2_2, y2_3, y2_4, y2_5, A2_5, C2_5, hA2, hS2, hl2, hx2, hv2, g2_0, g2_1, g2_2, g2_3, g2_4, g2_5, c2_0, c2_1, c2_2, c2_3, c2_4, c2_5⟩ := TPattern.at (l := [p, q]) HRQ.out 1 (by simp)
 injection Option.some.inj hA2 with qb2 qo2 _
 subst qb2 qo2
 have HV2 := hide (show Dat.HoldVals w0 S q.D _ from hv2)
 clear hv2 hx2 hS2 g2_0 g2_1 g2_2 g2_3 g2_4 g2_5
 replace c2_0 := (HBA.out.box b1 hl2 _).trans c2_0
 replace c2_1 := (HBA.out.box b1 hl2 _).trans c2_1
 replace c2_2 := (HBA.out.box b1 hl2 _).trans c2_2
 replace c2_3 := (HBA.out.box b1 hl2 _).trans c2_3
 replace c2_4 := (HBA.out.box b1 hl2 _).trans c2_4
 replace c2_5 := (HBA.out.box b1 hl2 _).trans c2_5
 simp only [Nat.zero_mul, Nat.one_mul, Nat.add_zero, Nat.reduceMul, Nat.add_assoc, Nat.reduceAdd] at c2_0 c2_1 c2_2 c2_3 c2_4 c2_5
 have HOK := hide (endsE_ok (s := s) hds d g p a hvp ha)
 go_upto_region 20 with (go_at_call 32; refine ((IH p hvp) _ _ S (g : Int) (a : Int) HV1.out HBA.out hM HSA.out (by omega) (by omega) (fun _ => by omega) hInA).mono ?_; rintro e w1 ⟨v1, L1, es1, st1, f1, rfl, hst1, hoff1, hO1, hB1, hC1, hout1⟩; obtain ⟨A1, cc1, hv1, hOD1, hR1⟩ := hO1.two; subst hv1; rw [List.length_map] at hOD1 hR1 hB1; have HOD1 := hide hOD1; have HB1 := hide hB1; have HC1 := hide hC1; have HOUT1 := hide hout1; have HST1 := hide hst1; have HOF1 := hide hoff1; have HRR1 := hide hR1; have hlR1 := hR1.1; have hcR1 := hR1.2.1; simp only [List.length_map] at hlR1; unfold maxLen at hcR1; rw [resE_nat] at hout1; have HOUT1 := hide hout1; have hx1 := hoff1.same w.heap.size hne2 hlA; have hzw1 := hoff1.size; have k1_0 := (hx1.1 0).trans k0; have k1_1 := (hx1.1 1).trans k1; have k1_2 := (hx1.1 2).trans k2; have k1_3 := (hx1.1 3).trans k3; have k1_4 := (hx1.1 4).trans k4; have k1_5 := (hx1.1 5).trans k5; obtain ⟨-, hfM1, m1_0, m1_1, m1_2⟩ := HST1.out; have hlw1 : w.heap.size < w1.heap.size := Nat.lt_of_lt_of_le hlA hzw1; have hMw1 : M < w1.heap.size := Nat.lt_of_lt_of_le hMA hzw1; have hnw1 : ¬ w.heap.size = w1.heap.size := (by omega); have hnMw1 : ¬ M = w1.heap.size := (by omega); have hxb := hoff1.same b1 hMb1 hlb1; have e2_0 := (hxb.1 _).trans c2_0; have e2_1 := (hxb.1 _).trans c2_1; have e2_2 := (hxb.1 _).trans c2_2; have e2_3 := (hxb.1 _).trans c2_3; have e2_4 := (hxb.1 _).trans c2_4; have e2_5 := (hxb.1 _).trans c2_5; have hlb1w : b1 < w1.heap.size := Nat.lt_of_lt_of_le hlb1 hzw1)
 obtain ⟨ff1, ff2, ff3, ff4, ff5⟩ := OutE.facts HOUT1.out HOK.out
 have hbW1 : Bel w0 w1 := HOF1.out.toBel HBA.out (fun x hx => by omega)
 have HGD1 := hide (show 0 ≤ f1 → ∀ x ∈ es1, 0 ≤ x.pos ∧ x.pos ≤ s.size ∧ x.cs.length ≤ 3000 from fun h x hx => by have := ff5 h x hx; omega)
 clear ff5
 have HS1B := hide (show ∀ b, Blk (.slice A1 es1.length cc1) L1 b → b ≠ M ∧ b < w1.heap.size from fun b hb => by have h1 := HB1.out b hb; have h2 := OwnD.lt HOD1.out b hb; omega)
 have HQV := hide (hqv_of (s := s) hds hvq hd)
 go_upto_region 21 with (go_at_call 54; refine (l19Then_any w0 ds s M A c d _ (IH q hvq) hs (by omega) HQV.out _ _ S (fun b => Blk (.slice A1 es1.length cc1) L1 b) f1 (-1) es1 [] A1 cc1 g (.slice none 0 0) [] g (-5000 * ((g : Int) + 1)) HV2.out hbW1 hM HST1.out hg (by omega) (by omega) (by omega) (by omega) (by omega) (by simp) HRR1.out HS1B.out HGD1.out (OwnD.nil _ _ _) (fun b hb => hb.elim (fun h => by cases h) (fun h => by cases h)) (fun b hb => hb.elim (fun h => by cases h) (fun h => by cases h)) (by simp; omega) (by omega) (fun x hx => by cases hx)).mono ?_; rintro e w2 ⟨v2, L2, es2, st2, f2, rfl, hst2, hoff2, hO2, hB2, hC2, hout2⟩; have HST2 := hide hst2; have HOF2 := hide hoff2; have HOD2 := hide hO2; have HB2 := hide hB2; have HC2 := hide hC2; have HOUT2 := hide hout2; have hzw2 := hoff2.size; have hlw2 : w.heap.size < w2.heap.size := (by omega); have hMw2 : M < w2.heap.size := (by omega))
 have HE := hide (then_out (R := endsE ds s (d + 1) (g + 1) (.mk 14 t n lo hi [p, q]) a) HOUT1.out ff1 ff3 (by omega) (by omega) (fun h => ends14_none h) (fun l t g1 h => ends14_go h) HOUT2.out)
 have HFF := hide (OffS.via (OffS.trans HFA.out HOF1.out) HOF2.out (fun x hx hl => ⟨hx, fun h => by cases h⟩))
 cases st1
 case true => as_aux_lemma =>
  go_wp2_with (fail)
  all_goals
   go_returns
   exact ⟨_, L2, es2, _, f2, rfl, StE.bel HST2.out bl, OffS.bel HFF.out bl, OwnD.bel HOD2.out bl, fun b hb => (HB2.out b hb).elim (fun h => h.elim (fun h => by cases h) (fun h => by cases h)) (fun h => by omega), fun x hx => by have := HC2.out x hx; omega, HE.out⟩
 case false => as_aux_lemma =>
  go_wp2_with (fail)
  all_goals
   go_returns
   exact ⟨_, L2, es2, _, f2, rfl, StE.bel HST2.out bl, OffS.bel HFF.out bl, OwnD.bel HOD2.out bl, fun b hb => (HB2.out b hb).elim (fun h => h.elim (fun h => by cases h) (fun h => by cases h)) (fun h => by omega), fun x hx => by have := HC2.out x hx; omega, HE.out⟩
set_option maxHeartbeats 4000000 in
theorem l19Ends_13 (w0 : World) (ds : List TPattern) (s : ByteArray) (M : Nat) (A : Option Addr) (c d : Nat) (t : ByteArray) (n lo hi : Int) (p : TPattern) (hs : s.size ≤ 120) (hd : d ≤ 2999) (w : World) (vs : List Value) (S : Nat → Prop) (g a : Nat) (hq : Dat.HoldVals w0 S (TPattern.mk 13 t n lo hi [p]).D vs) (hb0 : Bel w0 w) (hM : w0.heap.size ≤ M) (hst : StE w M A ds.length c s ((g : Int) + 1)) (hg : g ≤ d) (ha : a ≤ s.size) (hds : ∀ q ∈ ds, q.vld ds.length = true) (IH : ∀ q, q.vld ds.length = true → SpecC w0 ds s M A c d q) (hv : (TPattern.mk 13 t n lo hi [p]).vld ds.length = true) :
  Calls Try.prog 32 #[.pointer (some ⟨M, 0, none⟩), .agg vs.toArray, .int .i64 a] w (EndsPost w M A ds.length c s ((g : Int) + 1) (endsE ds s (d + 1) (g + 1) (.mk 13 t n lo hi [p]) a)) := by
 obtain ⟨p', hpe, hvp⟩ := TPattern.kids1 hv rfl
 obtain rfl : p = p' := by simpa using hpe
 clear hpe
 obtain ⟨Aq, cq, rfl, gop, gt, gn, glo, ghi, gR⟩ := TPattern.vals hq
 have HQ := hide hq
 have HRQ := hide gR
 have HST := hide hst
 have HB0 := hide hb0
 obtain ⟨hM1, hMf, m0, m1, m2⟩ := hst
 have hqc := gR.1
 have hqm := gR.2.1
 simp only [List.length_map, List.length_cons, List.length_nil, Nat.reduceAdd] at hqc
 unfold maxLen at hqm gt
 clear hq gR hb0
 have hw0 : IntKind.i64.wrap ((g : Int) + 1 - 1) = (g : Int) := by rw [IntKind.wrap_i64]; omega
 have hg0 : decide ((g : Int) < 0) = false := by simp
 have hne : ¬ M = w.heap.size := by omega
 have hne2 : ¬ w.heap.size = M := by omega
 go_enter Try.func32, Try.ntmps32
 go_upto_region 5 with (fail)
 refine wp_namedJ fun wA hwA => ?_
 have k0 : wA.cell? ⟨w.heap.size, 0, none⟩ = some (.int .i64 13) := by rw [← hwA]; simp [go_sem]
 have k1 : wA.cell? ⟨w.heap.size, 1, none⟩ = some (.string t) := by rw [← hwA]; simp [go_sem]
 have k2 : wA.cell? ⟨w.heap.size, 2, none⟩ = some (.int .i64 n) := by rw [← hwA]; simp [go_sem]
 have k3 : wA.cell? ⟨w.heap.size, 3, none⟩ = some (.int .i64 lo) := by rw [← hwA]; simp [go_sem]
 have k4 : wA.cell? ⟨w.heap.size, 4, none⟩ = some (.int .i64 hi) := by rw [← hwA]; simp [go_sem]
 have k5 : wA.cell? ⟨w.heap.size, 5, none⟩ = some (.slice Aq 1 cq) := by rw [← hwA]; simp [go_sem]
 have hzA : wA.heap.size = w.heap.size + 2 := by rw [← hwA]; simp
 have hlA : w.heap.size < wA.heap.size := by omega
 have hMA : M < wA.heap.size := by omega
 have hnA : ¬ w.heap.size = wA.heap.size := by omega
 have hnM : ¬ M = wA.heap.size := by omega
 have HZA := hide hzA
 have HFA := hide (show OffS (fun b => b ≠ M) w wA by rw [← hwA]; exact osl)
 have HSA := hide (show StE wA M A ds.length c s (g : Int) by rw [← hwA]; exact StE.bel (StE.put HST.out _) bl)
 have HBA := hide (show Bel w0 wA from HFA.out.toBel HB0.out (fun x hx => by omega))
 have hInA : InI (a : Int) := by unfold InI; omega
 have HHA := hide (show OwnD wA 36 2 (.slice (some ⟨w.heap.size + 1, 0, none⟩) 1 1) [] [(TEnding.mk a []).D] by rw [← hwA]; have h := OwnD.lit1 (k := 2) ((w.setCell ⟨M, 2, none⟩ (.int .i64 g)).alloc (.cells #[.int .i64 13, .string t, .int .i64 n, .int .i64 lo, .int .i64 hi, .slice Aq 1 cq] 28)) 36 (TEnding.own_mk (x0 := (a : Int)) (x1 := []) hInA (OwnRow.nil _ 3 none 0 (by unfold maxLen; omega))) rfl List.nodup_nil; simpa using h)
 clear hwA hzA m0 m1 m2
 obtain ⟨-, hfA, m0, m1, m2⟩ := HSA.out
 obtain ⟨b1, o1, y1_0, y1_1, y1_2, y1_3, y1_4, y1_5, A1_5, C1_5, hA1, hS1, hl1, hx1, hv1, g1_0, g1_1, g1_2, g1_3, g1_4, g1_5, c1_0, c1_1, c1_2, c1_3, c1_4, c1_5⟩ := TPattern.at (l := [p]) HRQ.out 0 (by simp)
 subst hA1
 have HV1 := hide (show Dat.HoldVals w0 S p.D _ from hv1)
 clear hv1 hx1 hS1 g1_0 g1_1 g1_2 g1_3 g1_4 g1_5
 have hlb1 : b1 < wA.heap.size := Nat.lt_of_lt_of_le hl1 (Bel.size HBA.out)
 have hnb1 : ¬ b1 = w.heap.size := by have := Bel.size HB0.out; omega
 have hMb1 : b1 ≠ M := by omega
 replace c1_0 := (HBA.out.box b1 hl1 _).trans c1_0
 replace c1_1 := (HBA.out.box b1 hl1 _).trans c1_1
 replace c1_2 := (HBA.out.box b1 hl1 _).trans c1_2
 replace c1_3 := (HBA.out.box b1 hl1 _).trans c1_3
 replace c1_4 := (HBA.out.box b1 hl1 _).trans c1_4
 replace c1_5 := (HBA.out.box b1 hl1 _).trans c1_5
 simp only [Nat.zero_mul, Nat.one_mul, Nat.add_zero, Nat.reduceMul, Nat.add_assoc, Nat.reduceAdd] at c1_0 c1_1 c1_2 c1_3 c1_4 c1_5
 have HOK := hide (endsE_ok (s := s) hds d g p a hvp ha)
 go_upto_region 16 with (go_at_call 32; refine ((IH p hvp) _ _ S (g : Int) (a : Int) HV1.out HBA.out hM HSA.out (by omega) (by omega) (fun _ => by omega) hInA).mono ?_; rintro e w1 ⟨v1, L1, es1, st1, f1, rfl, hst1, hoff1, hO1, hB1, hC1, hout1⟩; obtain ⟨A1, cc1, hv1, hOD1, hR1⟩ := hO1.two; subst hv1; rw [List.length_map] at hOD1 hR1 hB1; have HOD1 := hide hOD1; have HB1 := hide hB1; have HC1 := hide hC1; have HOUT1 := hide hout1; have HST1 := hide hst1; have HOF1 := hide hoff1; have HRR1 := hide hR1; have hlR1 := hR1.1; have hcR1 := hR1.2.1; simp only [List.length_map] at hlR1; unfold maxLen at hcR1; rw [resE_nat] at hout1; have HOUT1 := hide hout1; have hx1 := hoff1.same w.heap.size hne2 hlA; have hzw1 := hoff1.size; have k1_0 := (hx1.1 0).trans k0; have k1_1 := (hx1.1 1).trans k1; have k1_2 := (hx1.1 2).trans k2; have k1_3 := (hx1.1 3).trans k3; have k1_4 := (hx1.1 4).trans k4; have k1_5 := (hx1.1 5).trans k5; obtain ⟨-, hfM1, m1_0, m1_1, m1_2⟩ := HST1.out; have hlw1 : w.heap.size < w1.heap.size := Nat.lt_of_lt_of_le hlA hzw1; have hMw1 : M < w1.heap.size := Nat.lt_of_lt_of_le hMA hzw1; have hnw1 : ¬ w.heap.size = w1.heap.size := (by omega); have hnMw1 : ¬ M = w1.heap.size := (by omega))
 obtain ⟨ff1, ff2, ff3, ff4, ff5⟩ := OutE.facts HOUT1.out HOK.out
 have hbW1 : Bel w0 w1 := HOF1.out.toBel HBA.out (fun x hx => by omega)
 have HGD1 := hide (show 0 ≤ f1 → ∀ x ∈ es1, 0 ≤ x.pos ∧ x.pos ≤ s.size ∧ x.cs.length ≤ 3000 from fun h x hx => by have := ff5 h x hx; omega)
 clear ff5
 have HS1B := hide (show ∀ b, Blk (.slice A1 es1.length cc1) L1 b → b ≠ M ∧ b < w1.heap.size from fun b hb => by have h1 := HB1.out b hb; have h2 := OwnD.lt HOD1.out b hb; omega)
 have HQV := hide (hqv_of (s := s) hds hv hd)
 have HH1 := hide (OwnD.offS HHA.out HOF1.out (fun b hb => hb.elim (fun h => by have := Option.some.inj (show some (w.heap.size + 1) = some b from h); omega) (fun h => by cases h)))
 have HHM := hide (show ∀ b, Blk (.slice (some ⟨w.heap.size + 1, 0, none⟩) 1 1) [] b → b ≠ M ∧ ¬ Blk (.slice A1 es1.length cc1) L1 b from fun b hb => hb.elim (fun h => by have h0 := HZA.out; have h1 := Option.some.inj (show some (w.heap.size + 1) = some b from h); exact ⟨by omega, fun q => by have := HB1.out b q; omega⟩) (fun h => by cases h))
 have HHB := hide (show ∀ b, Blk (.slice (some ⟨w.heap.size + 1, 0, none⟩) 1 1) [] b → w0.heap.size ≤ b from fun b hb => hb.elim (fun h => by have h0 := Bel.size HB0.out; have h1 := Option.some.inj (show some (w.heap.size + 1) = some b from h); omega) (fun h => by cases h))
 go_upto_region 17 with (go_at_call 54; refine (l19Then_any w0 ds s M A c d _ (IH _ hv) hs (by omega) HQV.out _ _ S (fun b => Blk (.slice A1 es1.length cc1) L1 b) f1 (a : Int) es1 [TEnding.mk a []] A1 cc1 g (.slice (some ⟨w.heap.size + 1, 0, none⟩) 1 1) [] (g + 1) (-5000 * ((g : Int) + 1)) HQ.out hbW1 hM HST1.out hg (by omega) (by omega) (by omega) (by omega) (by omega) (by simp) HRR1.out HS1B.out HGD1.out HH1.out HHM.out HHB.out (by simp; omega) (by omega) (fun x hx => by rw [List.mem_singleton.1 hx]; simp only [TEnding.cs, List.length_nil]; omega)).mono ?_; rintro e w2 ⟨v2, L2, es2, st2, f2, rfl, hst2, hoff2, hO2, hB2, hC2, hout2⟩; have HST2 := hide hst2; have HOF2 := hide hoff2; have HOD2 := hide hO2; have HB2 := hide hB2; have HC2 := hide hC2; have HOUT2 := hide hout2; have hzw2 := hoff2.size; have hlw2 : w.heap.size < w2.heap.size := (by omega); have hMw2 : M < w2.heap.size := (by omega))
 have HE := hide (then_out (R := endsE ds s (d + 1) (g + 1) (.mk 13 t n lo hi [p]) a) HOUT1.out ff1 ff3 (by omega) (by omega) (fun h => ends13_none h) (fun l t g1 h => ends13_go h) HOUT2.out)
 have HFF := hide (OffS.via (OffS.trans HFA.out HOF1.out) HOF2.out (fun x hx hl => ⟨hx, fun h => by have := Option.some.inj (show some (w.heap.size + 1) = some x from h); omega⟩))
 cases st1
 case true => as_aux_lemma =>
  go_wp2_with (fail)
  all_goals
   go_returns
   exact ⟨_, L2, es2, _, f2, rfl, StE.bel HST2.out bl, OffS.bel HFF.out bl, OwnD.bel HOD2.out bl, fun b hb => (HB2.out b hb).elim (fun h => h.elim (fun h => by have := Option.some.inj (show some (w.heap.size + 1) = some b from h); omega) (fun h => by cases h)) (fun h => by omega), fun x hx => by have := HC2.out x hx; omega, HE.out⟩
 case false => as_aux_lemma =>
  go_wp2_with (fail)
  all_goals
   go_returns
   exact ⟨_, L2, es2, _, f2, rfl, StE.bel HST2.out bl, OffS.bel HFF.out bl, OwnD.bel HOD2.out bl, fun b hb => (HB2.out b hb).elim (fun h => h.elim (fun h => by have := Option.some.inj (show some (w.heap.size + 1) = some b from h); omega) (fun h => by cases h)) (fun h => by omega), fun x hx => by have := HC2.out x hx; omega, HE.out⟩
set_option maxHeartbeats 4000000 in
theorem l19Ends_20 (w0 : World) (ds : List TPattern) (s : ByteArray) (M : Nat) (A : Option Addr) (c d : Nat) (t : ByteArray) (n lo hi : Int) (ks : List TPattern) (hs : s.size ≤ 120) (hd : d ≤ 2999) (w : World) (vs : List Value) (S : Nat → Prop) (g a : Nat) (hq : Dat.HoldVals w0 S (TPattern.mk 20 t n lo hi ks).D vs) (hb0 : Bel w0 w) (hM : w0.heap.size ≤ M) (hst : StE w M A ds.length c s ((g : Int) + 1)) (hg : g ≤ d) (ha : a ≤ s.size) (hds : ∀ q ∈ ds, q.vld ds.length = true) (IH : ∀ q, q.vld ds.length = true → SpecC w0 ds s M A c d q) (hv : (TPattern.mk 20 t n lo hi ks).vld ds.length = true) (Sd : Nat → Prop) (hR : Row w0 Sd 6 A c (ds.map TPattern.D)) :
  Calls Try.prog 32 #[.pointer (some ⟨M, 0, none⟩), .agg vs.toArray, .int .i64 a] w (EndsPost w M A ds.length c s ((g : Int) + 1) (endsE ds s (d + 1) (g + 1) (.mk 20 t n lo hi ks) a)) := by
 have hn := nodeN_var (vld_node hv).2 (by simp)
 obtain ⟨m, rfl⟩ := Int.eq_ofNat_of_zero_le hn.1
 have hmn : m < ds.length := by omega
 have HRD := hide hR
 have hcd := hR.1
 simp only [List.length_map] at hcd
 have hcm := hR.2.1
 unfold maxLen at hcm
 clear hR
 obtain ⟨Aq, cq, rfl, gop, gt, gn, glo, ghi, gR⟩ := TPattern.vals hq
 have HQ := hide hq
 have HRQ := hide gR
 have HST := hide hst
 have HB0 := hide hb0
 obtain ⟨hM1, hMf, m0, m1, m2⟩ := hst
 have hqc := gR.1
 have hqm := gR.2.1
 simp only [List.length_map, List.length_cons, List.length_nil, Nat.reduceAdd] at hqc
 unfold maxLen at hqm gt
 clear hq gR hb0
 have hw0 : IntKind.i64.wrap ((g : Int) + 1 - 1) = (g : Int) := by rw [IntKind.wrap_i64]; omega
 have hg0 : decide ((g : Int) < 0) = false := by simp
 have hne : ¬ M = w.heap.size := by omega
 have hne2 : ¬ w.heap.size = M := by omega
 go_enter Try.func32, Try.ntmps32
 go_upto_region 5 with (fail)
 refine wp_namedJ fun wA hwA => ?_
 have k0 : wA.cell? ⟨w.heap.size, 0, none⟩ = some (.int .i64 20) := by rw [← hwA]; simp [go_sem]
 have k1 : wA.cell? ⟨w.heap.size, 1, none⟩ = some (.string t) := by rw [← hwA]; simp [go_sem]
 have k2 : wA.cell? ⟨w.heap.size, 2, none⟩ = some (.int .i64 (m : Int)) := by rw [← hwA]; simp [go_sem]
 have k3 : wA.cell? ⟨w.heap.size, 3, none⟩ = some (.int .i64 lo) := by rw [← hwA]; simp [go_sem]
 have k4 : wA.cell? ⟨w.heap.size, 4, none⟩ = some (.int .i64 hi) := by rw [← hwA]; simp [go_sem]
 have k5 : wA.cell? ⟨w.heap.size, 5, none⟩ = some (.slice Aq ks.length cq) := by rw [← hwA]; simp [go_sem]
 have hzA : wA.heap.size = w.heap.size + 2 := by rw [← hwA]; simp
 have hlA : w.heap.size < wA.heap.size := by omega
 have hMA : M < wA.heap.size := by omega
 have hnA : ¬ w.heap.size = wA.heap.size := by omega
 have hnM : ¬ M = wA.heap.size := by omega
 have HZA := hide hzA
 have HFA := hide (show OffS (fun b => b ≠ M) w wA by rw [← hwA]; exact osl)
 have HSA := hide (show StE wA M A ds.length c s (g : Int) by rw [← hwA]; exact StE.bel (StE.put HST.out _) bl)
 have HBA := hide (show Bel w0 wA from HFA.out.toBel HB0.out (fun x hx => by omega))
 have hInA : InI (a : Int) := by unfold InI; omega
 have HHA := hide (show OwnD wA 36 2 (.slice (some ⟨w.heap.size + 1, 0, none⟩) 1 1) [] [(TEnding.mk a []).D] by rw [← hwA]; have h := OwnD.lit1 (k := 2) ((w.setCell ⟨M, 2, none⟩ (.int .i64 g)).alloc (.cells #[.int .i64 20, .string t, .int .i64 (m : Int), .int .i64 lo, .int .i64 hi, .slice Aq ks.length cq] 28)) 36 (TEnding.own_mk (x0 := (a : Int)) (x1 := []) hInA (OwnRow.nil _ 3 none 0 (by unfold maxLen; omega))) rfl List.nodup_nil; simpa using h)
 clear hwA hzA m0 m1 m2
 obtain ⟨-, hfA, m0, m1, m2⟩ := HSA.out
 obtain ⟨b1, o1, y1_0, y1_1, y1_2, y1_3, y1_4, y1_5, A1_5, C1_5, hA1, hS1, hl1, hx1, hv1, g1_0, g1_1, g1_2, g1_3, g1_4, g1_5, c1_0, c1_1, c1_2, c1_3, c1_4, c1_5⟩ := TPattern.at HRD.out m hmn
 subst hA1
 have HV1 := hide hv1
 clear hv1 hx1 hS1 g1_0 g1_1 g1_2 g1_3 g1_4 g1_5
 have hlb1 : b1 < wA.heap.size := Nat.lt_of_lt_of_le hl1 (Bel.size HBA.out)
 have hMb1 : b1 ≠ M := by omega
 replace c1_0 := (HBA.out.box b1 hl1 _).trans c1_0
 replace c1_1 := (HBA.out.box b1 hl1 _).trans c1_1
 replace c1_2 := (HBA.out.box b1 hl1 _).trans c1_2
 replace c1_3 := (HBA.out.box b1 hl1 _).trans c1_3
 replace c1_4 := (HBA.out.box b1 hl1 _).trans c1_4
 replace c1_5 := (HBA.out.box b1 hl1 _).trans c1_5
 have hvq : ds[m].vld ds.length = true := hds _ (List.getElem_mem hmn)
 have HEQ := hide (ends20_eq (s := s) (d := d) (g := g) (a := a) (t := t) (lo := lo) (hi := hi) (ks := ks) (n := (m : Int)) (q := ds[m]) (by rw [Int.toNat_natCast]; exact List.getElem?_eq_getElem hmn))
 have hn0 : 0 ≤ (m : Int) := hn.1
 have hn1 : (m : Int) < (ds.length : Int) := hn.2
 go_wp2_with (fail)
 refine wp_region_held_drew (S := fun w' => w'.cell? ⟨M, 0, none⟩ = some (.slice (some ⟨b1, o1, none⟩) ds.length c) ∧ w'.cell? ⟨w.heap.size, 2, none⟩ = some (.int .i64 (m : Int)) ∧ w'.cell? ⟨b1, o1 + m * 6, none⟩ = some (.int .i64 y1_0) ∧ w'.cell? ⟨b1, o1 + m * 6 + 1, none⟩ = some (.string y1_1) ∧ w'.cell? ⟨b1, o1 + m * 6 + 2, none⟩ = some (.int .i64 y1_2) ∧ w'.cell? ⟨b1, o1 + m * 6 + 3, none⟩ = some (.int .i64 y1_3) ∧ w'.cell? ⟨b1, o1 + m * 6 + 4, none⟩ = some (.int .i64 y1_4) ∧ w'.cell? ⟨b1, o1 + m * 6 + 5, none⟩ = some (.slice A1_5 y1_5.length C1_5)) (by kernel_rfl) ?_ (fun hHeld => ?_)
 ·
  exact ⟨m0, k2, c1_0, c1_1, c1_2, c1_3, c1_4, c1_5⟩
 refine tkI 0 ?_
 refine tkI 1 ?_
 refine tkI 2 ?_
 refine tkI 3 ?_
 refine tkI 4 ?_
 refine tkI 5 ?_
 refine tkI 6 ?_
 refine tkI 7 ?_
 refine tkI 8 ?_
 refine tkI 9 ?_
 refine wpAnyH_ready (rs := [10]) (by kernel_rfl) (by simp) ?_
 refine AllReadyH.cons (o := _) rfl (fun K hK => ?_) AllReadyH.nil
 go_simp
 clear hHeld
 go_at_call 32
 refine (IH ds[m] hvq _ _ Sd (g : Int) (a : Int) HV1.out (Bel.trans HBA.out bl) hM (StE.bel HSA.out bl) (by omega) (by omega) (fun _ => by omega) hInA).mono ?_
 rintro e w1 ⟨v1, L1, es1, st1, f1, rfl, hst1, hoff1, hO1, hB1, hC1, hout1⟩
 rw [resE_nat] at hout1
 have HOUT1 := hide hout1
 have HST1 := hide hst1
 have HOF1 := hide (OffS.via (OffS.of_bel (fun b => b ≠ M) (show Bel wA wA.drew from bl)) hoff1 (fun b h _ => h))
 have HOD1 := hide hO1
 have HB1 := hide hB1
 have HC1 := hide hC1
 have hzw1 := hoff1.size
 simp only [World.size_drew] at hzw1
 have hx1 := hoff1.same w.heap.size hne2 (by simpa using hlA)
 have hb1x := hoff1.same b1 hMb1 (by simpa using hlb1)
 obtain ⟨-, -, z0, z1, z2⟩ := HST1.out
 refine hK.out _ _ ?_ (fun hHeld => ?_)
 ·
  exact ⟨z0, (hx1.1 _).trans k2, (hb1x.1 _).trans c1_0, (hb1x.1 _).trans c1_1, (hb1x.1 _).trans c1_2, (hb1x.1 _).trans c1_3, (hb1x.1 _).trans c1_4, (hb1x.1 _).trans c1_5⟩
 clear hK K
 (try simp only [Act.put, List.setIfInBounds_toArray, List.set_cons_zero, List.set_cons_succ, List.getElem_toArray, List.getElem_cons_zero, List.getElem_cons_succ])
 refine tkI 11 ?_
 refine tkI 12 ?_
 refine tkI 13 ?_
 refine tkI 14 ?_
 refine wpAnyH_done (by kernel_rfl) ?_ _
 have hlw1 : w.heap.size < w1.heap.size := by omega
 have hMw1 : M < w1.heap.size := by omega
 go_wp2_with (fail)
 all_goals
  go_returns
  rw [HEQ.out]
  exact ⟨_, L1, es1, st1, f1, rfl, StE.bel HST1.out bl, OffS.trans HFA.out (OffS.bel HOF1.out bl), OwnD.bel HOD1.out bl, fun b hb => by have := HB1.out b hb; simp only [World.size_drew] at this; omega, fun x hx => by have := HC1.out x hx; omega, OutE.up HOUT1.out⟩
end Go.Proofs.Ytdjbfneniohaaaa
