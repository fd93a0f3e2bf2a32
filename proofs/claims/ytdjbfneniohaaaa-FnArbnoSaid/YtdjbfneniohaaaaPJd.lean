/- The program's evaluation: operations that call again. -/
import Derived.Test.YtdjbfneniohaaaaPJc
import Derived.Deep.RegionHeld3
import Derived.Deep.Cut
import Derived.OwnWalk
namespace Go.Proofs.Ytdjbfneniohaaaa
set_option linter.unusedVariables false
set_option linter.unusedSimpArgs false
set_option maxRecDepth 100000
open Go.RowKit
section
variable {ds : List TPattern} {s : ByteArray} {d g a : Nat} {t : ByteArray} {n lo hi : Int} {p q : TPattern}
theorem dead_up {R r : ResE} {es es' : List TEnding} {st st' : Bool} {f1 : Int} (ho : OutE (g : Int) r es st f1) (h : f1 < 0) (hR : r = none → R = none) (hl : es'.length ≤ es.length) : OutE ((g : Int) + 1) R es' st' f1 := by
 rcases ho with ⟨l, t, g1, r1, r2, r3, r4⟩ | ⟨r1, r2, r3, r4, r5⟩
 ·
  omega
 ·
  rw [if_pos (by omega)] at r4
  exact Or.inr ⟨hR r1, r2, by omega, by rw [if_pos (by omega)]; omega, fun h => by omega⟩
theorem after_out {R : ResE} {ev : Nat → Nat → ResE} {above : Int} {os es es2 : List TEnding} {st st2 : Bool} {h : Nat} {f2 : Int} (ho : OutE (g : Int) (endsE ds s d g p a) es st (h : Int)) (hh : h ≤ g) (hR1 : ∀ l t g1, endsE ds s d g p a = some (l, t, g1) → R = orE t (thenE ev above l g1 os))
  (ho2 : OutA h (orE st (thenE ev above es h os)) es2 st2 f2) : OutE ((g : Int) + 1) R es2 st2 f2 := by
 rcases ho with ⟨l, t, g1, r1, r2, r3, r4⟩ | ⟨r1, r2, r3, r4, r5⟩
 ·
  subst r2 r3
  obtain rfl : h = g1 := by omega
  rcases ho2 with ⟨l2, t2, g2, q1, q2, q3, q4⟩ | ⟨q1, q2, q3, q4⟩
  ·
   exact Or.inl ⟨l2, t2, g2, by rw [hR1 _ _ _ r1, q1], q2, q3, q4⟩
  ·
   subst q3
   exact Or.inr ⟨by rw [hR1 _ _ _ r1, q1], q2, by simp; omega, by rw [if_pos (by omega)]; omega, fun h => by omega⟩
 ·
  omega
theorem arb_dead (ha : a ≤ s.size) (hs : s.size ≤ 120) {ks : List TPattern} {i : Nat} (h1 : a ≤ i) (h2 : i ≤ s.size) (h3 : (g : Int) - ((i : Int) - a) ≤ 0) (h4 : -1 ≤ (g : Int) - ((i : Int) - a)) : OutE ((g : Int) + 1) (endsE ds s (d + 1) (g + 1) (.mk 11 t n lo hi ks) a) [] false ((g : Int) - ((i : Int) - a) - 1) :=
 Or.inr ⟨by (conv => lhs; unfold endsE); rw [if_pos (by decide)]; rw [if_neg (by omega)], by omega, by simp; omega, by rw [if_pos (by omega)]; omega, fun h => by omega⟩
end
set_option maxHeartbeats 4000000 in
theorem eval_17 (w0 : World) (ds : List TPattern) (s : ByteArray) (M : Nat) (A : Option Addr) (c d : Nat) (t : ByteArray) (n lo hi : Int) (p : TPattern) (hs : s.size ≤ 120) (hd : d ≤ 2999) (w : World) (vs : List Value) (S : Nat → Prop) (g a : Nat) (hq : Dat.HoldVals w0 S (TPattern.mk 17 t n lo hi [p]).D vs) (hb0 : Bel w0 w) (hM : w0.heap.size ≤ M) (hst : StI w M A ds.length c s ((g : Int) + 1)) (hg : g ≤ d) (ha : a ≤ s.size) (hds : ∀ q ∈ ds, q.vld ds.length = true) (IH : ∀ q, q.vld ds.length = true → ImpC w0 ds s M A c d q) (hv : (TPattern.mk 17 t n lo hi [p]).vld ds.length = true) :
  Calls Try.prog 29 #[.pointer (some ⟨M, 0, none⟩), .agg vs.toArray, .int .i64 a] w (EndsPostI w M A ds.length c s ((g : Int) + 1) (endsE ds s (d + 1) (g + 1) (.mk 17 t n lo hi [p]) a)) := by
 obtain ⟨p', hpe, hvp⟩ := TPattern.kids1 hv rfl
 obtain rfl : p = p' := by simpa using hpe
 clear hpe
 obtain ⟨Aq, cq, rfl, gop, gt, gn, glo, ghi, gR⟩ := TPattern.vals hq
 have HQ := hide hq
 have HRQ := hide gR
 have HST := hide hst
 have HB0 := hide hb0
 have hM1 := hst.1
 have hqc := gR.1
 have hqm := gR.2.1
 simp only [List.length_map, List.length_cons, List.length_nil, Nat.reduceAdd] at hqc
 unfold maxLen at hqm gt
 clear hq gR hb0 hst
 have hne : ¬ M = w.heap.size := by omega
 have hne2 : ¬ w.heap.size = M := by omega
 have hd1 : decide (0 < (g : Int) + 1) = true := decide_eq_true (by omega)
 have hInA : InI (a : Int) := by unfold InI; omega
 go_enter Try.func29, Try.ntmps29
 go_upto_region 3 with (go_at_call 50; refine (step_any _ M A ds.length c s _ (StI.bel HST.out bl) (by omega) (by omega)).mono ?_; rintro e w1 ⟨rfl, hst1, hoff1⟩; rw [hd1])
 have HS1 := hide (show StI w1 M A ds.length c s (g : Int) by have h := hst1; rw [show (g : Int) + 1 - 1 = (g : Int) by omega] at h; exact h)
 have hz1 := hoff1.size
 simp only [World.size_alloc] at hz1
 have hx1 := hoff1.same w.heap.size hne2 (by simp)
 have p_0 : w1.cell? ⟨w.heap.size, 0, none⟩ = some (.int .i64 17) := (hx1.1 0).trans (by simp)
 have p_1 : w1.cell? ⟨w.heap.size, 1, none⟩ = some (.string t) := (hx1.1 1).trans (by simp)
 have p_2 : w1.cell? ⟨w.heap.size, 2, none⟩ = some (.int .i64 n) := (hx1.1 2).trans (by simp)
 have p_3 : w1.cell? ⟨w.heap.size, 3, none⟩ = some (.int .i64 lo) := (hx1.1 3).trans (by simp)
 have p_4 : w1.cell? ⟨w.heap.size, 4, none⟩ = some (.int .i64 hi) := (hx1.1 4).trans (by simp)
 have p_5 : w1.cell? ⟨w.heap.size, 5, none⟩ = some (.slice Aq 1 cq) := (hx1.1 5).trans (by simp)
 have HF1 := hide (OffS.via (OffS.of_bel (fun b => b ≠ M) (show Bel w (w.alloc (.cells #[.int .i64 17, .string t, .int .i64 n, .int .i64 lo, .int .i64 hi, .slice Aq 1 cq] 28)) from bl)) hoff1 (fun b hb _ => hb))
 clear hst1 hoff1 hx1
 obtain ⟨hM2, -, -, z1, -⟩ := HS1.out
 have hl1 : w.heap.size < w1.heap.size := by omega
 have hn1 : ¬ w.heap.size = w1.heap.size := by omega
 have hnm1 : ¬ M = w1.heap.size := by omega
 go_region_held3 (fun w' => w'.cell? ⟨w.heap.size, 0, none⟩ = some (.int .i64 17) ∧ w'.cell? ⟨w.heap.size, 1, none⟩ = some (.string t) ∧ w'.cell? ⟨w.heap.size, 2, none⟩ = some (.int .i64 n) ∧ w'.cell? ⟨w.heap.size, 3, none⟩ = some (.int .i64 lo) ∧ w'.cell? ⟨w.heap.size, 4, none⟩ = some (.int .i64 hi) ∧ w'.cell? ⟨w.heap.size, 5, none⟩ = some (.slice Aq 1 cq) ∧ w'.cell? ⟨M, 1, none⟩ = some (.string s)) (go_keep) (first | (go_at_call 51; refine (simple_17 n lo hi t s a Aq 1 cq _).mono ?_; rintro e w2 ⟨rfl, hb2⟩; (have hz2 := hb2.sz; obtain ⟨hk2_0, hf2_0, hl2_0, hn2_0⟩ := hb2.lay (w.heap.size); obtain ⟨hk2_1, hf2_1, hl2_1, hn2_1⟩ := hb2.lay (M))))
 go_upto_region 8 with (fail)
 refine wp_namedJ fun wA hwA => ?_
 have hbA : Bel w1 wA := by rw [← hwA]; exact bl
 have hzA := hbA.size
 have k0 := (hbA.box w.heap.size hl1 _).trans p_0
 have k1 := (hbA.box w.heap.size hl1 _).trans p_1
 have k2 := (hbA.box w.heap.size hl1 _).trans p_2
 have k3 := (hbA.box w.heap.size hl1 _).trans p_3
 have k4 := (hbA.box w.heap.size hl1 _).trans p_4
 have k5 := (hbA.box w.heap.size hl1 _).trans p_5
 have hlA : w.heap.size < wA.heap.size := by omega
 have hMA : M < wA.heap.size := by omega
 have hnA : ¬ w.heap.size = wA.heap.size := by omega
 have hnM : ¬ M = wA.heap.size := by omega
 have HFA := hide (OffS.bel HF1.out hbA)
 have HSA := hide (StI.bel HS1.out hbA)
 have HBA := hide (show Bel w0 wA from HFA.out.toBel HB0.out (fun x hx => by omega))
 clear hwA hbA hzA p_0 p_1 p_2 p_3 p_4 p_5 z1
 obtain ⟨-, hfA, m0, m1, m2, m3⟩ := HSA.out
 have hng : decide ((g : Int) < 0) = false := by simp
 rw [hng] at m3
 obtain ⟨b1, o1, y1_0, y1_1, y1_2, y1_3, y1_4, y1_5, A1_5, C1_5, hA1, hS1, hl1, hx1, hv1, g1_0, g1_1, g1_2, g1_3, g1_4, g1_5, c1_0, c1_1, c1_2, c1_3, c1_4, c1_5⟩ := TPattern.at (l := [p]) HRQ.out 0 (by simp)
 subst hA1
 have HV1 := hide (show Dat.HoldVals w0 S p.D _ from hv1)
 clear hv1 hx1 hS1 g1_0 g1_1 g1_2 g1_3 g1_4 g1_5
 have hlb1 : b1 < wA.heap.size := Nat.lt_of_lt_of_le hl1 (Bel.size HBA.out)
 have hnb1 : ¬ b1 = w.heap.size := by have := Bel.size HB0.out; omega
 have hMb1 : b1 ≠ M := by omega
 replace c1_0 := (HBA.out.box b1 hl1 _).trans c1_0
 replace c1_1 := (HBA.out.box b1 hl1 _).trans c1_1
 replace c1_2 := (HBA.out.box b1 hl1 _).trans c1_2
 replace c1_3 := (HBA.out.box b1 hl1 _).trans c1_3
 replace c1_4 := (HBA.out.box b1 hl1 _).trans c1_4
 replace c1_5 := (HBA.out.box b1 hl1 _).trans c1_5
 simp only [Nat.zero_mul, Nat.one_mul, Nat.add_zero, Nat.reduceMul, Nat.add_assoc, Nat.reduceAdd] at c1_0 c1_1 c1_2 c1_3 c1_4 c1_5
 go_wp2_with (go_at_call 29; refine ((IH p hvp) _ _ S (g : Int) (a : Int) HV1.out HBA.out hM HSA.out (by omega) (by omega) (fun _ => by omega) hInA).mono ?_; rintro e w1 ⟨v1, L1, es1, st1, f1, rfl, hst1, hoff1, hO1, hB1, hC1, hout1⟩; obtain ⟨A1, cc1, hv1, hOD1, hR1⟩ := hO1.two; subst hv1; rw [List.length_map] at hOD1 hR1 hB1; have HOD1 := hide hOD1; have HB1 := hide hB1; have HC1 := hide hC1; have HOUT1 := hide hout1; have HST1 := hide hst1; have HOF1 := hide hoff1; have HRR1 := hide hR1; have hlR1 := hR1.1; have hcR1 := hR1.2.1; simp only [List.length_map] at hlR1; unfold maxLen at hcR1; rw [resE_nat] at hout1; have HOUT1 := hide hout1; have hx1 := hoff1.same w.heap.size hne2 hlA; have hzw1 := hoff1.size; have k1_0 := (hx1.1 0).trans k0; have k1_1 := (hx1.1 1).trans k1; have k1_2 := (hx1.1 2).trans k2; have k1_3 := (hx1.1 3).trans k3; have k1_4 := (hx1.1 4).trans k4; have k1_5 := (hx1.1 5).trans k5; obtain ⟨-, hfM1, m1_0, m1_1, m1_2⟩ := HST1.out; have hlw1 : w.heap.size < w1.heap.size := Nat.lt_of_lt_of_le hlA hzw1; have hMw1 : M < w1.heap.size := Nat.lt_of_lt_of_le hMA hzw1; have hnw1 : ¬ w.heap.size = w1.heap.size := (by omega); have hnMw1 : ¬ M = w1.heap.size := (by omega))
 all_goals
  go_returns
  exact ⟨_, L1, es1, st1, f1, rfl, StI.bel HST1.out bl, OffS.trans HFA.out (OffS.bel HOF1.out bl), OwnD.bel HOD1.out bl, fun b hb => by have := HB1.out b hb; omega, fun x hx => by have := HC1.out x hx; omega, by rw [ends17_eq]; exact OutE.up HOUT1.out⟩
set_option maxHeartbeats 4000000 in
theorem eval_15 (w0 : World) (ds : List TPattern) (s : ByteArray) (M : Nat) (A : Option Addr) (c d : Nat) (t : ByteArray) (n lo hi : Int) (p q : TPattern) (hs : s.size ≤ 120) (hd : d ≤ 2999) (w : World) (vs : List Value) (S : Nat → Prop) (g a : Nat) (hq : Dat.HoldVals w0 S (TPattern.mk 15 t n lo hi [p, q]).D vs) (hb0 : Bel w0 w) (hM : w0.heap.size ≤ M) (hst : StI w M A ds.length c s ((g : Int) + 1)) (hg : g ≤ d) (ha : a ≤ s.size) (hds : ∀ q ∈ ds, q.vld ds.length = true) (IH : ∀ q, q.vld ds.length = true → ImpC w0 ds s M A c d q) (hv : (TPattern.mk 15 t n lo hi [p, q]).vld ds.length = true) :
  Calls Try.prog 29 #[.pointer (some ⟨M, 0, none⟩), .agg vs.toArray, .int .i64 a] w (EndsPostI w M A ds.length c s ((g : Int) + 1) (endsE ds s (d + 1) (g + 1) (.mk 15 t n lo hi [p, q]) a)) := by
 obtain ⟨hvp, hvq⟩ := TPattern.vld2 hv
 obtain ⟨Aq, cq, rfl, gop, gt, gn, glo, ghi, gR⟩ := TPattern.vals hq
 have HQ := hide hq
 have HRQ := hide gR
 have HST := hide hst
 have HB0 := hide hb0
 have hM1 := hst.1
 have hqc := gR.1
 have hqm := gR.2.1
 simp only [List.length_map, List.length_cons, List.length_nil, Nat.reduceAdd] at hqc
 unfold maxLen at hqm gt
 clear hq gR hb0 hst
 have hne : ¬ M = w.heap.size := by omega
 have hne2 : ¬ w.heap.size = M := by omega
 have hd1 : decide (0 < (g : Int) + 1) = true := decide_eq_true (by omega)
 have hInA : InI (a : Int) := by unfold InI; omega
 go_enter Try.func29, Try.ntmps29
 go_upto_region 3 with (go_at_call 50; refine (step_any _ M A ds.length c s _ (StI.bel HST.out bl) (by omega) (by omega)).mono ?_; rintro e w1 ⟨rfl, hst1, hoff1⟩; rw [hd1])
 have HS1 := hide (show StI w1 M A ds.length c s (g : Int) by have h := hst1; rw [show (g : Int) + 1 - 1 = (g : Int) by omega] at h; exact h)
 have hz1 := hoff1.size
 simp only [World.size_alloc] at hz1
 have hx1 := hoff1.same w.heap.size hne2 (by simp)
 have p_0 : w1.cell? ⟨w.heap.size, 0, none⟩ = some (.int .i64 15) := (hx1.1 0).trans (by simp)
 have p_1 : w1.cell? ⟨w.heap.size, 1, none⟩ = some (.string t) := (hx1.1 1).trans (by simp)
 have p_2 : w1.cell? ⟨w.heap.size, 2, none⟩ = some (.int .i64 n) := (hx1.1 2).trans (by simp)
 have p_3 : w1.cell? ⟨w.heap.size, 3, none⟩ = some (.int .i64 lo) := (hx1.1 3).trans (by simp)
 have p_4 : w1.cell? ⟨w.heap.size, 4, none⟩ = some (.int .i64 hi) := (hx1.1 4).trans (by simp)
 have p_5 : w1.cell? ⟨w.heap.size, 5, none⟩ = some (.slice Aq 2 cq) := (hx1.1 5).trans (by simp)
 have HF1 := hide (OffS.via (OffS.of_bel (fun b => b ≠ M) (show Bel w (w.alloc (.cells #[.int .i64 15, .string t, .int .i64 n, .int .i64 lo, .int .i64 hi, .slice Aq 2 cq] 28)) from bl)) hoff1 (fun b hb _ => hb))
 clear hst1 hoff1 hx1
 obtain ⟨hM2, -, -, z1, -⟩ := HS1.out
 have hl1 : w.heap.size < w1.heap.size := by omega
 have hn1 : ¬ w.heap.size = w1.heap.size := by omega
 have hnm1 : ¬ M = w1.heap.size := by omega
 go_region_held3 (fun w' => w'.cell? ⟨w.heap.size, 0, none⟩ = some (.int .i64 15) ∧ w'.cell? ⟨w.heap.size, 1, none⟩ = some (.string t) ∧ w'.cell? ⟨w.heap.size, 2, none⟩ = some (.int .i64 n) ∧ w'.cell? ⟨w.heap.size, 3, none⟩ = some (.int .i64 lo) ∧ w'.cell? ⟨w.heap.size, 4, none⟩ = some (.int .i64 hi) ∧ w'.cell? ⟨w.heap.size, 5, none⟩ = some (.slice Aq 2 cq) ∧ w'.cell? ⟨M, 1, none⟩ = some (.string s)) (go_keep) (first | (go_at_call 51; refine (simple_15 n lo hi t s a Aq 2 cq _).mono ?_; rintro e w2 ⟨rfl, hb2⟩; (have hz2 := hb2.sz; obtain ⟨hk2_0, hf2_0, hl2_0, hn2_0⟩ := hb2.lay (w.heap.size); obtain ⟨hk2_1, hf2_1, hl2_1, hn2_1⟩ := hb2.lay (M))))
 go_upto_region 8 with (fail)
 refine wp_namedJ fun wA hwA => ?_
 have hbA : Bel w1 wA := by rw [← hwA]; exact bl
 have hzA := hbA.size
 have k0 := (hbA.box w.heap.size hl1 _).trans p_0
 have k1 := (hbA.box w.heap.size hl1 _).trans p_1
 have k2 := (hbA.box w.heap.size hl1 _).trans p_2
 have k3 := (hbA.box w.heap.size hl1 _).trans p_3
 have k4 := (hbA.box w.heap.size hl1 _).trans p_4
 have k5 := (hbA.box w.heap.size hl1 _).trans p_5
 have hlA : w.heap.size < wA.heap.size := by omega
 have hMA : M < wA.heap.size := by omega
 have hnA : ¬ w.heap.size = wA.heap.size := by omega
 have hnM : ¬ M = wA.heap.size := by omega
 have HFA := hide (OffS.bel HF1.out hbA)
 have HSA := hide (StI.bel HS1.out hbA)
 have HBA := hide (show Bel w0 wA from HFA.out.toBel HB0.out (fun x hx => by omega))
 clear hwA hbA hzA p_0 p_1 p_2 p_3 p_4 p_5 z1
 obtain ⟨-, hfA, m0, m1, m2, m3⟩ := HSA.out
 have hng : decide ((g : Int) < 0) = false := by simp
 rw [hng] at m3
 obtain ⟨b1, o1, y1_0, y1_1, y1_2, y1_3, y1_4, y1_5, A1_5, C1_5, hA1, hS1, hl1, hx1, hv1, g1_0, g1_1, g1_2, g1_3, g1_4, g1_5, c1_0, c1_1, c1_2, c1_3, c1_4, c1_5⟩ := TPattern.at (l := [p, q]) HRQ.out 0 (by simp)
 subst hA1
 have HV1 := hide (show Dat.HoldVals w0 S p.D _ from hv1)
 clear hv1 hx1 hS1 g1_0 g1_1 g1_2 g1_3 g1_4 g1_5
 have hlb1 : b1 < wA.heap.size := Nat.lt_of_lt_of_le hl1 (Bel.size HBA.out)
 have hnb1 : ¬ b1 = w.heap.size := by have := Bel.size HB0.out; omega
 have hMb1 : b1 ≠ M := by omega
 replace c1_0 := (HBA.out.box b1 hl1 _).trans c1_0
 replace c1_1 := (HBA.out.box b1 hl1 _).trans c1_1
 replace c1_2 := (HBA.out.box b1 hl1 _).trans c1_2
 replace c1_3 := (HBA.out.box b1 hl1 _).trans c1_3
 replace c1_4 := (HBA.out.box b1 hl1 _).trans c1_4
 replace c1_5 := (HBA.out.box b1 hl1 _).trans c1_5
 simp only [Nat.zero_mul, Nat.one_mul, Nat.add_zero, Nat.reduceMul, Nat.add_assoc, Nat.reduceAdd] at c1_0 c1_1 c1_2 c1_3 c1_4 c1_5
 obtain ⟨b2, o2, y2_0, y2_1, y2_2, y2_3, y2_4, y2_5, A2_5, C2_5, hA2, hS2, hl2, hx2, hv2, g2_0, g2_1, g2_2, g2_3, g2_4, g2_5, c2_0, c2_1, c2_2, c2_3, c2_4, c2_5⟩ := TPattern.at (l := [p, q]) HRQ.out 1 (by simp)
 injection Option.some.inj hA2 with qb2 qo2 _
 subst qb2 qo2
 have HV2 := hide (show Dat.HoldVals w0 S q.D _ from hv2)
 clear hv2 hx2 hS2 g2_0 g2_1 g2_2 g2_3 g2_4 g2_5
 replace c2_0 := (HBA.out.box b1 hl2 _).trans c2_0
 replace c2_1 := (HBA.out.box b1 hl2 _).trans c2_1
 replace c2_2 := (HBA.out.box b1 hl2 _).trans c2_2
 replace c2_3 := (HBA.out.box b1 hl2 _).trans c2_3
 replace c2_4 := (HBA.out.box b1 hl2 _).trans c2_4
 replace c2_5 := (HBA.out.box b1 hl2 _).trans c2_5
 simp only [Nat.zero_mul, Nat.one_mul, Nat.add_zero, Nat.reduceMul, Nat.add_assoc, Nat.reduceAdd] at c2_0 c2_1 c2_2 c2_3 c2_4 c2_5
 obtain ⟨ie, hie, ze0, ze1, ze2⟩ := info_parts infoEnd
 obtain ⟨ic, hic, zc0, zc1, zc2⟩ := info_parts infoCap
 have HOK := hide (endsE_ok (s := s) hds d g p a hvp ha)
 go_upto_region 25 with (go_at_call 29; refine ((IH p hvp) _ _ S (g : Int) (a : Int) HV1.out HBA.out hM HSA.out (by omega) (by omega) (fun _ => by omega) hInA).mono ?_; rintro e w1 ⟨v1, L1, es1, st1, f1, rfl, hst1, hoff1, hO1, hB1, hC1, hout1⟩; obtain ⟨A1, cc1, hv1, hOD1, hR1⟩ := hO1.two; subst hv1; rw [List.length_map] at hOD1 hR1 hB1; have HOD1 := hide hOD1; have HB1 := hide hB1; have HC1 := hide hC1; have HOUT1 := hide hout1; have HST1 := hide hst1; have HOF1 := hide hoff1; have HRR1 := hide hR1; have hlR1 := hR1.1; have hcR1 := hR1.2.1; simp only [List.length_map] at hlR1; unfold maxLen at hcR1; rw [resE_nat] at hout1; have HOUT1 := hide hout1; have hx1 := hoff1.same w.heap.size hne2 hlA; have hzw1 := hoff1.size; have k1_0 := (hx1.1 0).trans k0; have k1_1 := (hx1.1 1).trans k1; have k1_2 := (hx1.1 2).trans k2; have k1_3 := (hx1.1 3).trans k3; have k1_4 := (hx1.1 4).trans k4; have k1_5 := (hx1.1 5).trans k5; obtain ⟨-, hfM1, m1_0, m1_1, m1_2⟩ := HST1.out; have hlw1 : w.heap.size < w1.heap.size := Nat.lt_of_lt_of_le hlA hzw1; have hMw1 : M < w1.heap.size := Nat.lt_of_lt_of_le hMA hzw1; have hnw1 : ¬ w.heap.size = w1.heap.size := (by omega); have hnMw1 : ¬ M = w1.heap.size := (by omega); have hxb := hoff1.same b1 hMb1 hlb1; have e2_0 := (hxb.1 _).trans c2_0; have e2_1 := (hxb.1 _).trans c2_1; have e2_2 := (hxb.1 _).trans c2_2; have e2_3 := (hxb.1 _).trans c2_3; have e2_4 := (hxb.1 _).trans c2_4; have e2_5 := (hxb.1 _).trans c2_5; have hlb1w : b1 < w1.heap.size := Nat.lt_of_lt_of_le hlb1 hzw1)
 have m1_3 := m1_2.2
 cases st1
 case true => as_aux_lemma =>
  have HE := hide (or15_stop (t := t) (n := n) (lo := lo) (hi := hi) (q := q) HOUT1.out)
  go_wp2_with (fail)
  all_goals
   go_returns
   exact ⟨_, L1, es1, true, f1, rfl, StI.bel HST1.out bl, OffS.trans HFA.out (OffS.bel HOF1.out bl), OwnD.bel HOD1.out bl, fun b hb => by have := HB1.out b hb; omega, fun x hx => by have := HC1.out x hx; omega, HE.out⟩
 case false =>
 by_cases h0 : f1 < 0
 case pos => as_aux_lemma =>
  have hov : decide (f1 < 0) = true := by simpa using h0
  rw [hov] at m1_3
  have HE := hide (dead_up (R := endsE ds s (d + 1) (g + 1) (.mk 15 t n lo hi [p, q]) a) (es' := es1) (st' := false) HOUT1.out h0 (fun h => ends15_none h) (Nat.le_refl _))
  go_wp2_with (fail)
  all_goals
   go_returns
   exact ⟨_, L1, es1, false, f1, rfl, StI.bel HST1.out bl, OffS.trans HFA.out (OffS.bel HOF1.out bl), OwnD.bel HOD1.out bl, fun b hb => by have := HB1.out b hb; omega, fun x hx => by have := HC1.out x hx; omega, HE.out⟩
 case neg =>
 have hov : decide (f1 < 0) = false := by simpa using h0
 rw [hov] at m1_3
 obtain ⟨ff1, ff2, ff3, ff4, -⟩ := OutE.facts HOUT1.out HOK.out
 have hbW1 : Bel w0 w1 := HOF1.out.toBel HBA.out (fun x hx => by omega)
 go_upto_region 28 with (go_at_call 29; refine ((IH q hvq) _ _ S f1 (a : Int) HV2.out hbW1 hM HST1.out (by omega) (by omega) (fun _ => by omega) hInA).mono ?_; rintro e w2 ⟨v2, L2, es2, st2, f2, rfl, hst2, hoff2, hO2, hB2, hC2, hout2⟩; obtain ⟨A2, cc2, hv2, hOD2, hR2⟩ := hO2.two; subst hv2; rw [List.length_map] at hOD2 hR2 hB2; have HOD2 := hide hOD2; have HB2 := hide hB2; have HC2 := hide hC2; have HOUT2 := hide hout2; have HST2 := hide hst2; have HOF2 := hide hoff2; have HRR2 := hide hR2; have hlR2 := hR2.1; have hcR2 := hR2.2.1; simp only [List.length_map] at hlR2; unfold maxLen at hcR2; have hzw2 := hoff2.size; have hlw2 : w.heap.size < w2.heap.size := (by omega); have hMw2 : M < w2.heap.size := (by omega))
 have fl2 := OutE.len2 (g := g) HOUT2.out (fun f' => endsE_ok (s := s) hds d f' q a hvq ha) (by omega)
 have HE := hide (or15_go (t := t) (n := n) (lo := lo) (hi := hi) HOUT1.out HOK.out HOUT2.out)
 have HOD1b := hide (OwnD.offS HOD1.out HOF2.out (fun b hb => by have := HB1.out b hb; omega))
 obtain ⟨nw2, hsr2⟩ := HOD2.out.src
 have HSR2 := hide hsr2
 clear hsr2
 have hlt1 : ∀ b, Blk (.slice A1 es1.length cc1) L1 b → b < w1.heap.size := HOD1.out.lt
 have HLT1 := hide hlt1
 clear hlt1
 go_wp2_with (at_builtin; refine wpList_append_D rfl (.tmp 127) (.tmp 128) 31 rfl 36 ie (.agg #[.int .i64 0, .slice none 0 0]) 2 32 Try.underlying31 hie ze0 ze1 ze2 (by decide) (by decide) HOD1b.out HSR2.out cc2 rfl rfl ?c1 ?c2 ?c3 ?_)
 case c1 => exact fun b hb hm => by have h1 := HLT1.out b hb; have h2 := HB2.out b (Or.inr hm); omega
 case c2 => rw [List.length_map]; omega
 case c3 => rw [List.length_map]; unfold maxLen; omega
 intro v6 w6 hO6 hg6 hw6
 have HO6 := hide (show OwnD w6 36 2 v6 (L1 ++ L2) ((es1 ++ es2).map TEnding.D) by rw [List.map_append]; exact hO6)
 have HV6 := hide (show ∀ b, v6.ownBlock = some b → wA.heap.size ≤ b from fun b hb => (hw6 b hb).elim (fun h => HB1.out b (Or.inl h)) (fun h => by omega))
 have HF6 := hide (OffS.via (OffS.trans HFA.out (OffS.trans HOF1.out HOF2.out)) (grown_offS hg6) (fun x hx hl h => by have := HB1.out x (Or.inl h); omega))
 have HST6 := hide (StI.offS HST2.out (grown_offS hg6) (fun h => by have := HB1.out M (Or.inl h); omega))
 have hz6 := (grown_offS hg6).size
 clear hg6 hw6 hO6
 go_wp2_with (fail)
 all_goals
  go_returns
  exact ⟨_, L1 ++ L2, es1 ++ es2, st2, f2, rfl, StI.bel HST6.out bl, OffS.bel HF6.out bl, OwnD.bel HO6.out bl, fun b hb => hb.elim (fun h => by have := HV6.out b h; omega) (fun h => (List.mem_append.1 h).elim (fun h => by have := HB1.out b (Or.inr h); omega) (fun h => by have := HB2.out b (Or.inr h); omega)), fun x hx => (List.mem_append.1 hx).elim (fun h => by have := HC1.out x h; omega) (fun h => by have := HC2.out x h; omega), HE.out⟩
set_option maxHeartbeats 4000000 in
theorem eval_14 (w0 : World) (ds : List TPattern) (s : ByteArray) (M : Nat) (A : Option Addr) (c d : Nat) (t : ByteArray) (n lo hi : Int) (p q : TPattern) (hs : s.size ≤ 120) (hd : d ≤ 2999) (w : World) (vs : List Value) (S : Nat → Prop) (g a : Nat) (hq : Dat.HoldVals w0 S (TPattern.mk 14 t n lo hi [p, q]).D vs) (hb0 : Bel w0 w) (hM : w0.heap.size ≤ M) (hst : StI w M A ds.length c s ((g : Int) + 1)) (hg : g ≤ d) (ha : a ≤ s.size) (hds : ∀ q ∈ ds, q.vld ds.length = true) (IH : ∀ q, q.vld ds.length = true → ImpC w0 ds s M A c d q) (hv : (TPattern.mk 14 t n lo hi [p, q]).vld ds.length = true) :
  Calls Try.prog 29 #[.pointer (some ⟨M, 0, none⟩), .agg vs.toArray, .int .i64 a] w (EndsPostI w M A ds.length c s ((g : Int) + 1) (endsE ds s (d + 1) (g + 1) (.mk 14 t n lo hi [p, q]) a)) := by
 obtain ⟨hvp, hvq⟩ := TPattern.vld2 hv
 obtain ⟨Aq, cq, rfl, gop, gt, gn, glo, ghi, gR⟩ := TPattern.vals hq
 have HQ := hide hq
 have HRQ := hide gR
 have HST := hide hst
 have HB0 := hide hb0
 have hM1 := hst.1
 have hqc := gR.1
 have hqm := gR.2.1
 simp only [List.length_map, List.length_cons, List.length_nil, Nat.reduceAdd] at hqc
 unfold maxLen at hqm gt
 clear hq gR hb0 hst
 have hne : ¬ M = w.heap.size := by omega
 have hne2 : ¬ w.heap.size = M := by omega
 have hd1 : decide (0 < (g : Int) + 1) = true := decide_eq_true (by omega)
 have hInA : InI (a : Int) := by unfold InI; omega
 go_enter Try.func29, Try.ntmps29
 go_upto_region 3 with (go_at_call 50; refine (step_any _ M A ds.length c s _ (StI.bel HST.out bl) (by omega) (by omega)).mono ?_; rintro e w1 ⟨rfl, hst1, hoff1⟩; rw [hd1])
 have HS1 := hide (show StI w1 M A ds.length c s (g : Int) by have h := hst1; rw [show (g : Int) + 1 - 1 = (g : Int) by omega] at h; exact h)
 have hz1 := hoff1.size
 simp only [World.size_alloc] at hz1
 have hx1 := hoff1.same w.heap.size hne2 (by simp)
 have p_0 : w1.cell? ⟨w.heap.size, 0, none⟩ = some (.int .i64 14) := (hx1.1 0).trans (by simp)
 have p_1 : w1.cell? ⟨w.heap.size, 1, none⟩ = some (.string t) := (hx1.1 1).trans (by simp)
 have p_2 : w1.cell? ⟨w.heap.size, 2, none⟩ = some (.int .i64 n) := (hx1.1 2).trans (by simp)
 have p_3 : w1.cell? ⟨w.heap.size, 3, none⟩ = some (.int .i64 lo) := (hx1.1 3).trans (by simp)
 have p_4 : w1.cell? ⟨w.heap.size, 4, none⟩ = some (.int .i64 hi) := (hx1.1 4).trans (by simp)
 have p_5 : w1.cell? ⟨w.heap.size, 5, none⟩ = some (.slice Aq 2 cq) := (hx1.1 5).trans (by simp)
 have HF1 := hide (OffS.via (OffS.of_bel (fun b => b ≠ M) (show Bel w (w.alloc (.cells #[.int .i64 14, .string t, .int .i64 n, .int .i64 lo, .int .i64 hi, .slice Aq 2 cq] 28)) from bl)) hoff1 (fun b hb _ => hb))
 clear hst1 hoff1 hx1
 obtain ⟨hM2, -, -, z1, -⟩ := HS1.out
 have hl1 : w.heap.size < w1.heap.size := by omega
 have hn1 : ¬ w.heap.size = w1.heap.size := by omega
 have hnm1 : ¬ M = w1.heap.size := by omega
 go_region_held3 (fun w' => w'.cell? ⟨w.heap.size, 0, none⟩ = some (.int .i64 14) ∧ w'.cell? ⟨w.heap.size, 1, none⟩ = some (.string t) ∧ w'.cell? ⟨w.heap.size, 2, none⟩ = some (.int .i64 n) ∧ w'.cell? ⟨w.heap.size, 3, none⟩ = some (.int .i64 lo) ∧ w'.cell? ⟨w.heap.size, 4, none⟩ = some (.int .i64 hi) ∧ w'.cell? ⟨w.heap.size, 5, none⟩ = some (.slice Aq 2 cq) ∧ w'.cell? ⟨M, 1, none⟩ = some (.string s)) (go_keep) (first | (go_at_call 51; refine (simple_14 n lo hi t s a Aq 2 cq _).mono ?_; rintro e w2 ⟨rfl, hb2⟩; (have hz2 := hb2.sz; obtain ⟨hk2_0, hf2_0, hl2_0, hn2_0⟩ := hb2.lay (w.heap.size); obtain ⟨hk2_1, hf2_1, hl2_1, hn2_1⟩ := hb2.lay (M))))
 go_upto_region 8 with (fail)
 refine wp_namedJ fun wA hwA => ?_
 have hbA : Bel w1 wA := by rw [← hwA]; exact bl
 have hzA := hbA.size
 have k0 := (hbA.box w.heap.size hl1 _).trans p_0
 have k1 := (hbA.box w.heap.size hl1 _).trans p_1
 have k2 := (hbA.box w.heap.size hl1 _).trans p_2
 have k3 := (hbA.box w.heap.size hl1 _).trans p_3
 have k4 := (hbA.box w.heap.size hl1 _).trans p_4
 have k5 := (hbA.box w.heap.size hl1 _).trans p_5
 have hlA : w.heap.size < wA.heap.size := by omega
 have hMA : M < wA.heap.size := by omega
 have hnA : ¬ w.heap.size = wA.heap.size := by omega
 have hnM : ¬ M = wA.heap.size := by omega
 have HFA := hide (OffS.bel HF1.out hbA)
 have HSA := hide (StI.bel HS1.out hbA)
 have HBA := hide (show Bel w0 wA from HFA.out.toBel HB0.out (fun x hx => by omega))
 clear hwA hbA hzA p_0 p_1 p_2 p_3 p_4 p_5 z1
 obtain ⟨-, hfA, m0, m1, m2, m3⟩ := HSA.out
 have hng : decide ((g : Int) < 0) = false := by simp
 rw [hng] at m3
 obtain ⟨b1, o1, y1_0, y1_1, y1_2, y1_3, y1_4, y1_5, A1_5, C1_5, hA1, hS1, hl1, hx1, hv1, g1_0, g1_1, g1_2, g1_3, g1_4, g1_5, c1_0, c1_1, c1_2, c1_3, c1_4, c1_5⟩ := TPattern.at (l := [p, q]) HRQ.out 0 (by simp)
 subst hA1
 have HV1 := hide (show Dat.HoldVals w0 S p.D _ from hv1)
 clear hv1 hx1 hS1 g1_0 g1_1 g1_2 g1_3 g1_4 g1_5
 have hlb1 : b1 < wA.heap.size := Nat.lt_of_lt_of_le hl1 (Bel.size HBA.out)
 have hnb1 : ¬ b1 = w.heap.size := by have := Bel.size HB0.out; omega
 have hMb1 : b1 ≠ M := by omega
 replace c1_0 := (HBA.out.box b1 hl1 _).trans c1_0
 replace c1_1 := (HBA.out.box b1 hl1 _).trans c1_1
 replace c1_2 := (HBA.out.box b1 hl1 _).trans c1_2
 replace c1_3 := (HBA.out.box b1 hl1 _).trans c1_3
 replace c1_4 := (HBA.out.box b1 hl1 _).trans c1_4
 replace c1_5 := (HBA.out.box b1 hl1 _).trans c1_5
 simp only [Nat.zero_mul, Nat.one_mul, Nat.add_zero, Nat.reduceMul, Nat.add_assoc, Nat.reduceAdd] at c1_0 c1_1 c1_2 c1_3 c1_4 c1_5
 obtain ⟨b2, o2, y2_0, y2_1, y2_2, y2_3, y2_4, y2_5, A2_5, C2_5, hA2, hS2, hl2, hx2, hv2, g2_0, g2_1, g2_2, g2_3, g2_4, g2_5, c2_0, c2_1, c2_2, c2_3, c2_4, c2_5⟩ := TPattern.at (l := [p, q]) HRQ.out 1 (by simp)
 injection Option.some.inj hA2 with qb2 qo2 _
 subst qb2 qo2
 have HV2 := hide (show Dat.HoldVals w0 S q.D _ from hv2)
 clear hv2 hx2 hS2 g2_0 g2_1 g2_2 g2_3 g2_4 g2_5
 replace c2_0 := (HBA.out.box b1 hl2 _).trans c2_0
 replace c2_1 := (HBA.out.box b1 hl2 _).trans c2_1
 replace c2_2 := (HBA.out.box b1 hl2 _).trans c2_2
 replace c2_3 := (HBA.out.box b1 hl2 _).trans c2_3
 replace c2_4 := (HBA.out.box b1 hl2 _).trans c2_4
 replace c2_5 := (HBA.out.box b1 hl2 _).trans c2_5
 simp only [Nat.zero_mul, Nat.one_mul, Nat.add_zero, Nat.reduceMul, Nat.add_assoc, Nat.reduceAdd] at c2_0 c2_1 c2_2 c2_3 c2_4 c2_5
 have HOK := hide (endsE_ok (s := s) hds d g p a hvp ha)
 go_upto_region 20 with (go_at_call 29; refine ((IH p hvp) _ _ S (g : Int) (a : Int) HV1.out HBA.out hM HSA.out (by omega) (by omega) (fun _ => by omega) hInA).mono ?_; rintro e w1 ⟨v1, L1, es1, st1, f1, rfl, hst1, hoff1, hO1, hB1, hC1, hout1⟩; obtain ⟨A1, cc1, hv1, hOD1, hR1⟩ := hO1.two; subst hv1; rw [List.length_map] at hOD1 hR1 hB1; have HOD1 := hide hOD1; have HB1 := hide hB1; have HC1 := hide hC1; have HOUT1 := hide hout1; have HST1 := hide hst1; have HOF1 := hide hoff1; have HRR1 := hide hR1; have hlR1 := hR1.1; have hcR1 := hR1.2.1; simp only [List.length_map] at hlR1; unfold maxLen at hcR1; rw [resE_nat] at hout1; have HOUT1 := hide hout1; have hx1 := hoff1.same w.heap.size hne2 hlA; have hzw1 := hoff1.size; have k1_0 := (hx1.1 0).trans k0; have k1_1 := (hx1.1 1).trans k1; have k1_2 := (hx1.1 2).trans k2; have k1_3 := (hx1.1 3).trans k3; have k1_4 := (hx1.1 4).trans k4; have k1_5 := (hx1.1 5).trans k5; obtain ⟨-, hfM1, m1_0, m1_1, m1_2⟩ := HST1.out; have hlw1 : w.heap.size < w1.heap.size := Nat.lt_of_lt_of_le hlA hzw1; have hMw1 : M < w1.heap.size := Nat.lt_of_lt_of_le hMA hzw1; have hnw1 : ¬ w.heap.size = w1.heap.size := (by omega); have hnMw1 : ¬ M = w1.heap.size := (by omega); have hxb := hoff1.same b1 hMb1 hlb1; have e2_0 := (hxb.1 _).trans c2_0; have e2_1 := (hxb.1 _).trans c2_1; have e2_2 := (hxb.1 _).trans c2_2; have e2_3 := (hxb.1 _).trans c2_3; have e2_4 := (hxb.1 _).trans c2_4; have e2_5 := (hxb.1 _).trans c2_5; have hlb1w : b1 < w1.heap.size := Nat.lt_of_lt_of_le hlb1 hzw1)
 have m1_3 := m1_2.2
 by_cases h0 : f1 < 0
 case pos => as_aux_lemma =>
  have hov : decide (f1 < 0) = true := by simpa using h0
  rw [hov] at m1_3
  have HE := hide (dead_up (R := endsE ds s (d + 1) (g + 1) (.mk 14 t n lo hi [p, q]) a) (es' := []) (st' := false) HOUT1.out h0 (fun h => ends14_none h) (Nat.zero_le _))
  go_wp2_with (fail)
  all_goals
   go_returns
   exact ⟨_, [], [], false, f1, rfl, StI.bel HST1.out bl, OffS.trans HFA.out (OffS.bel HOF1.out bl), OwnD.nil _ _ _, fun b hb => hb.elim (fun h => by cases h) (fun h => by cases h), (fun x hx => by cases hx), HE.out⟩
 case neg =>
 have hov : decide (f1 < 0) = false := by simpa using h0
 rw [hov] at m1_3
 obtain ⟨ff1, ff2, ff3, ff4, ff5⟩ := OutE.facts HOUT1.out HOK.out
 obtain ⟨h, rfl⟩ := Int.eq_ofNat_of_zero_le (show 0 ≤ f1 by omega)
 have ff6 := ff4 (by omega)
 have hbW1 : Bel w0 w1 := HOF1.out.toBel HBA.out (fun x hx => by omega)
 have HGD1 := hide (show ∀ x ∈ es1, 0 ≤ x.pos ∧ x.pos ≤ s.size ∧ x.cs.length ≤ 3000 from fun x hx => by have := ff5 (by omega) x hx; omega)
 clear ff5 ff4
 have HS1B := hide (show ∀ b, Blk (.slice A1 es1.length cc1) L1 b → b ≠ M ∧ b < w1.heap.size from fun b hb => by have h1 := HB1.out b hb; have h2 := OwnD.lt HOD1.out b hb; omega)
 have HQV := hide (hqv_of (s := s) hds hvq hd)
 go_wp2_with (go_at_call 52; refine (after_any w0 ds s M A c d _ (IH q hvq) hs hd HQV.out _ _ S (fun b => Blk (.slice A1 es1.length cc1) L1 b) h (-1) es1 [] A1 cc1 st1 (.slice none 0 0) [] g HV2.out hbW1 hM HST1.out (by omega) (by omega) (by simp) HRR1.out HS1B.out HGD1.out (OwnD.nil _ _ _) (fun b hb => hb.elim (fun h => by cases h) (fun h => by cases h)) (fun b hb => hb.elim (fun h => by cases h) (fun h => by cases h)) (by simp; omega) (by omega) (fun x hx => by cases hx)).mono ?_; rintro e w2 ⟨v2, L2, es2, st2, f2, rfl, hst2, hoff2, hO2, hB2, hC2, hout2⟩; have HST2 := hide hst2; have HOF2 := hide hoff2; have HOD2 := hide hO2; have HB2 := hide hB2; have HC2 := hide hC2; have HOUT2 := hide hout2; have hzw2 := hoff2.size; (try simp only [World.size_alloc] at hzw2); have hlw2 : w.heap.size < w2.heap.size := (by omega); have hMw2 : M < w2.heap.size := (by omega))
 all_goals
  go_returns
  exact ⟨_, L2, es2, st2, f2, rfl, StI.bel HST2.out bl, OffS.via (OffS.trans HFA.out HOF1.out) (OffS.bel HOF2.out bl) (fun x hx hl => ⟨hx, fun h => by cases h⟩), OwnD.bel HOD2.out bl, fun b hb => (HB2.out b hb).elim (fun h => h.elim (fun h => by cases h) (fun h => by cases h)) (fun h => by omega), fun x hx => by have := HC2.out x hx; omega, after_out HOUT1.out (by omega) (fun l t g1 h => ends14_go h) HOUT2.out⟩
set_option maxHeartbeats 4000000 in
theorem eval_13 (w0 : World) (ds : List TPattern) (s : ByteArray) (M : Nat) (A : Option Addr) (c d : Nat) (t : ByteArray) (n lo hi : Int) (p : TPattern) (hs : s.size ≤ 120) (hd : d ≤ 2999) (w : World) (vs : List Value) (S : Nat → Prop) (g a : Nat) (hq : Dat.HoldVals w0 S (TPattern.mk 13 t n lo hi [p]).D vs) (hb0 : Bel w0 w) (hM : w0.heap.size ≤ M) (hst : StI w M A ds.length c s ((g : Int) + 1)) (hg : g ≤ d) (ha : a ≤ s.size) (hds : ∀ q ∈ ds, q.vld ds.length = true) (IH : ∀ q, q.vld ds.length = true → ImpC w0 ds s M A c d q) (hv : (TPattern.mk 13 t n lo hi [p]).vld ds.length = true) :
  Calls Try.prog 29 #[.pointer (some ⟨M, 0, none⟩), .agg vs.toArray, .int .i64 a] w (EndsPostI w M A ds.length c s ((g : Int) + 1) (endsE ds s (d + 1) (g + 1) (.mk 13 t n lo hi [p]) a)) := by
 obtain ⟨p', hpe, hvp⟩ := TPattern.kids1 hv rfl
 obtain rfl : p = p' := by simpa using hpe
 clear hpe
 obtain ⟨Aq, cq, rfl, gop, gt, gn, glo, ghi, gR⟩ := TPattern.vals hq
 have HQ := hide hq
 have HRQ := hide gR
 have HST := hide hst
 have HB0 := hide hb0
 have hM1 := hst.1
 have hqc := gR.1
 have hqm := gR.2.1
 simp only [List.length_map, List.length_cons, List.length_nil, Nat.reduceAdd] at hqc
 unfold maxLen at hqm gt
 clear hq gR hb0 hst
 have hne : ¬ M = w.heap.size := by omega
 have hne2 : ¬ w.heap.size = M := by omega
 have hd1 : decide (0 < (g : Int) + 1) = true := decide_eq_true (by omega)
 have hInA : InI (a : Int) := by unfold InI; omega
 go_enter Try.func29, Try.ntmps29
 go_upto_region 3 with (go_at_call 50; refine (step_any _ M A ds.length c s _ (StI.bel HST.out bl) (by omega) (by omega)).mono ?_; rintro e w1 ⟨rfl, hst1, hoff1⟩; rw [hd1])
 have HS1 := hide (show StI w1 M A ds.length c s (g : Int) by have h := hst1; rw [show (g : Int) + 1 - 1 = (g : Int) by omega] at h; exact h)
 have hz1 := hoff1.size
 simp only [World.size_alloc] at hz1
 have hx1 := hoff1.same w.heap.size hne2 (by simp)
 have p_0 : w1.cell? ⟨w.heap.size, 0, none⟩ = some (.int .i64 13) := (hx1.1 0).trans (by simp)
 have p_1 : w1.cell? ⟨w.heap.size, 1, none⟩ = some (.string t) := (hx1.1 1).trans (by simp)
 have p_2 : w1.cell? ⟨w.heap.size, 2, none⟩ = some (.int .i64 n) := (hx1.1 2).trans (by simp)
 have p_3 : w1.cell? ⟨w.heap.size, 3, none⟩ = some (.int .i64 lo) := (hx1.1 3).trans (by simp)
 have p_4 : w1.cell? ⟨w.heap.size, 4, none⟩ = some (.int .i64 hi) := (hx1.1 4).trans (by simp)
 have p_5 : w1.cell? ⟨w.heap.size, 5, none⟩ = some (.slice Aq 1 cq) := (hx1.1 5).trans (by simp)
 have HF1 := hide (OffS.via (OffS.of_bel (fun b => b ≠ M) (show Bel w (w.alloc (.cells #[.int .i64 13, .string t, .int .i64 n, .int .i64 lo, .int .i64 hi, .slice Aq 1 cq] 28)) from bl)) hoff1 (fun b hb _ => hb))
 clear hst1 hoff1 hx1
 obtain ⟨hM2, -, -, z1, -⟩ := HS1.out
 have hl1 : w.heap.size < w1.heap.size := by omega
 have hn1 : ¬ w.heap.size = w1.heap.size := by omega
 have hnm1 : ¬ M = w1.heap.size := by omega
 go_region_held3 (fun w' => w'.cell? ⟨w.heap.size, 0, none⟩ = some (.int .i64 13) ∧ w'.cell? ⟨w.heap.size, 1, none⟩ = some (.string t) ∧ w'.cell? ⟨w.heap.size, 2, none⟩ = some (.int .i64 n) ∧ w'.cell? ⟨w.heap.size, 3, none⟩ = some (.int .i64 lo) ∧ w'.cell? ⟨w.heap.size, 4, none⟩ = some (.int .i64 hi) ∧ w'.cell? ⟨w.heap.size, 5, none⟩ = some (.slice Aq 1 cq) ∧ w'.cell? ⟨M, 1, none⟩ = some (.string s)) (go_keep) (first | (go_at_call 51; refine (simple_13 n lo hi t s a Aq 1 cq _).mono ?_; rintro e w2 ⟨rfl, hb2⟩; (have hz2 := hb2.sz; obtain ⟨hk2_0, hf2_0, hl2_0, hn2_0⟩ := hb2.lay (w.heap.size); obtain ⟨hk2_1, hf2_1, hl2_1, hn2_1⟩ := hb2.lay (M))))
 go_upto_region 8 with (fail)
 refine wp_namedJ fun wA hwA => ?_
 have hbA : Bel w1 wA := by rw [← hwA]; exact bl
 have hzA := hbA.size
 have k0 := (hbA.box w.heap.size hl1 _).trans p_0
 have k1 := (hbA.box w.heap.size hl1 _).trans p_1
 have k2 := (hbA.box w.heap.size hl1 _).trans p_2
 have k3 := (hbA.box w.heap.size hl1 _).trans p_3
 have k4 := (hbA.box w.heap.size hl1 _).trans p_4
 have k5 := (hbA.box w.heap.size hl1 _).trans p_5
 have hlA : w.heap.size < wA.heap.size := by omega
 have hMA : M < wA.heap.size := by omega
 have hnA : ¬ w.heap.size = wA.heap.size := by omega
 have hnM : ¬ M = wA.heap.size := by omega
 have HFA := hide (OffS.bel HF1.out hbA)
 have HSA := hide (StI.bel HS1.out hbA)
 have HBA := hide (show Bel w0 wA from HFA.out.toBel HB0.out (fun x hx => by omega))
 clear hwA hbA hzA p_0 p_1 p_2 p_3 p_4 p_5 z1
 obtain ⟨-, hfA, m0, m1, m2, m3⟩ := HSA.out
 have hng : decide ((g : Int) < 0) = false := by simp
 rw [hng] at m3
 obtain ⟨b1, o1, y1_0, y1_1, y1_2, y1_3, y1_4, y1_5, A1_5, C1_5, hA1, hS1, hl1, hx1, hv1, g1_0, g1_1, g1_2, g1_3, g1_4, g1_5, c1_0, c1_1, c1_2, c1_3, c1_4, c1_5⟩ := TPattern.at (l := [p]) HRQ.out 0 (by simp)
 subst hA1
 have HV1 := hide (show Dat.HoldVals w0 S p.D _ from hv1)
 clear hv1 hx1 hS1 g1_0 g1_1 g1_2 g1_3 g1_4 g1_5
 have hlb1 : b1 < wA.heap.size := Nat.lt_of_lt_of_le hl1 (Bel.size HBA.out)
 have hnb1 : ¬ b1 = w.heap.size := by have := Bel.size HB0.out; omega
 have hMb1 : b1 ≠ M := by omega
 replace c1_0 := (HBA.out.box b1 hl1 _).trans c1_0
 replace c1_1 := (HBA.out.box b1 hl1 _).trans c1_1
 replace c1_2 := (HBA.out.box b1 hl1 _).trans c1_2
 replace c1_3 := (HBA.out.box b1 hl1 _).trans c1_3
 replace c1_4 := (HBA.out.box b1 hl1 _).trans c1_4
 replace c1_5 := (HBA.out.box b1 hl1 _).trans c1_5
 simp only [Nat.zero_mul, Nat.one_mul, Nat.add_zero, Nat.reduceMul, Nat.add_assoc, Nat.reduceAdd] at c1_0 c1_1 c1_2 c1_3 c1_4 c1_5
 have HOK := hide (endsE_ok (s := s) hds d g p a hvp ha)
 go_upto_region 31 with (go_at_call 29; refine ((IH p hvp) _ _ S (g : Int) (a : Int) HV1.out HBA.out hM HSA.out (by omega) (by omega) (fun _ => by omega) hInA).mono ?_; rintro e w1 ⟨v1, L1, es1, st1, f1, rfl, hst1, hoff1, hO1, hB1, hC1, hout1⟩; obtain ⟨A1, cc1, hv1, hOD1, hR1⟩ := hO1.two; subst hv1; rw [List.length_map] at hOD1 hR1 hB1; have HOD1 := hide hOD1; have HB1 := hide hB1; have HC1 := hide hC1; have HOUT1 := hide hout1; have HST1 := hide hst1; have HOF1 := hide hoff1; have HRR1 := hide hR1; have hlR1 := hR1.1; have hcR1 := hR1.2.1; simp only [List.length_map] at hlR1; unfold maxLen at hcR1; rw [resE_nat] at hout1; have HOUT1 := hide hout1; have hx1 := hoff1.same w.heap.size hne2 hlA; have hzw1 := hoff1.size; have k1_0 := (hx1.1 0).trans k0; have k1_1 := (hx1.1 1).trans k1; have k1_2 := (hx1.1 2).trans k2; have k1_3 := (hx1.1 3).trans k3; have k1_4 := (hx1.1 4).trans k4; have k1_5 := (hx1.1 5).trans k5; obtain ⟨-, hfM1, m1_0, m1_1, m1_2⟩ := HST1.out; have hlw1 : w.heap.size < w1.heap.size := Nat.lt_of_lt_of_le hlA hzw1; have hMw1 : M < w1.heap.size := Nat.lt_of_lt_of_le hMA hzw1; have hnw1 : ¬ w.heap.size = w1.heap.size := (by omega); have hnMw1 : ¬ M = w1.heap.size := (by omega))
 have m1_3 := m1_2.2
 by_cases h0 : f1 < 0
 case pos => as_aux_lemma =>
  have hov : decide (f1 < 0) = true := by simpa using h0
  rw [hov] at m1_3
  have HE := hide (dead_up (R := endsE ds s (d + 1) (g + 1) (.mk 13 t n lo hi [p]) a) (es' := []) (st' := false) HOUT1.out h0 (fun h => ends13_none h) (Nat.zero_le _))
  go_wp2_with (fail)
  all_goals
   go_returns
   exact ⟨_, [], [], false, f1, rfl, StI.bel HST1.out bl, OffS.trans HFA.out (OffS.bel HOF1.out bl), OwnD.nil _ _ _, fun b hb => hb.elim (fun h => by cases h) (fun h => by cases h), (fun x hx => by cases hx), HE.out⟩
 case neg =>
 have hov : decide (f1 < 0) = false := by simpa using h0
 rw [hov] at m1_3
 obtain ⟨ff1, ff2, ff3, ff4, ff5⟩ := OutE.facts HOUT1.out HOK.out
 obtain ⟨h, rfl⟩ := Int.eq_ofNat_of_zero_le (show 0 ≤ f1 by omega)
 have ff6 := ff4 (by omega)
 have hbW1 : Bel w0 w1 := HOF1.out.toBel HBA.out (fun x hx => by omega)
 have HGD1 := hide (show ∀ x ∈ es1, 0 ≤ x.pos ∧ x.pos ≤ s.size ∧ x.cs.length ≤ 3000 from fun x hx => by have := ff5 (by omega) x hx; omega)
 clear ff5 ff4
 have HS1B := hide (show ∀ b, Blk (.slice A1 es1.length cc1) L1 b → b ≠ M ∧ b < w1.heap.size from fun b hb => by have h1 := HB1.out b hb; have h2 := OwnD.lt HOD1.out b hb; omega)
 have HQV := hide (hqv_of (s := s) hds hv hd)
 have hbz : Bel w1 (w1.alloc (.cells #[.int .i64 (a : Int), .slice none 0 0] 36)) := bl
 have HHZ := hide (OwnD.lit1 (k := 2) w1 36 (TEnding.own_mk (x0 := (a : Int)) (x1 := []) hInA (OwnRow.nil _ 3 none 0 (by unfold maxLen; omega))) rfl List.nodup_nil)
 have HHM := hide (show ∀ b, Blk (.slice (some ⟨w1.heap.size, 0, none⟩) 1 1) [] b → b ≠ M ∧ ¬ Blk (.slice A1 es1.length cc1) L1 b from fun b hb => hb.elim (fun h => by have h1 := Option.some.inj (show some w1.heap.size = some b from h); exact ⟨by omega, fun q => by have := (HS1B.out b q).2; omega⟩) (fun h => by cases h))
 have HHB := hide (show ∀ b, Blk (.slice (some ⟨w1.heap.size, 0, none⟩) 1 1) [] b → w0.heap.size ≤ b from fun b hb => hb.elim (fun h => by have h0 := Bel.size hbW1; have h1 := Option.some.inj (show some w1.heap.size = some b from h); omega) (fun h => by cases h))
 have HS1C := hide (show ∀ b, Blk (.slice A1 es1.length cc1) L1 b → b ≠ M ∧ b < (w1.alloc (.cells #[.int .i64 (a : Int), .slice none 0 0] 36)).heap.size from fun b hb => by have h1 := HS1B.out b hb; simp only [World.size_alloc]; omega)
 go_wp2_with (go_at_call 52; refine (after_any w0 ds s M A c d _ (IH _ hv) hs hd HQV.out _ _ S (fun b => Blk (.slice A1 es1.length cc1) L1 b) h (a : Int) es1 [TEnding.mk a []] A1 cc1 st1 (.slice (some ⟨w1.heap.size, 0, none⟩) 1 1) [] (g + 1) HQ.out (Bel.trans hbW1 hbz) hM (StI.bel HST1.out hbz) (by omega) (by omega) (by simp) (Row.bel hbz HRR1.out) HS1C.out HGD1.out HHZ.out HHM.out HHB.out (by simp; omega) (by omega) (fun x hx => by rw [List.mem_singleton.1 hx]; simp only [TEnding.cs, List.length_nil]; omega)).mono ?_; rintro e w2 ⟨v2, L2, es2, st2, f2, rfl, hst2, hoff2, hO2, hB2, hC2, hout2⟩; have HST2 := hide hst2; have HOF2 := hide hoff2; have HOD2 := hide hO2; have HB2 := hide hB2; have HC2 := hide hC2; have HOUT2 := hide hout2; have hzw2 := hoff2.size; (try simp only [World.size_alloc] at hzw2); have hlw2 : w.heap.size < w2.heap.size := (by omega); have hMw2 : M < w2.heap.size := (by omega))
 all_goals
  go_returns
  exact ⟨_, L2, es2, st2, f2, rfl, StI.bel HST2.out bl, OffS.via (OffS.trans HFA.out (OffS.bel HOF1.out hbz)) (OffS.bel HOF2.out bl) (fun x hx hl => ⟨hx, fun h => by have := Option.some.inj (show some w1.heap.size = some x from h); omega⟩), OwnD.bel HOD2.out bl, fun b hb => (HB2.out b hb).elim (fun h => h.elim (fun h => by have := Option.some.inj (show some w1.heap.size = some b from h); omega) (fun h => by cases h)) (fun h => by (try simp only [World.size_alloc] at h); omega), fun x hx => by have := HC2.out x hx; omega, after_out HOUT1.out (by omega) (fun l t g1 h => ends13_go h) HOUT2.out⟩
set_option maxHeartbeats 4000000 in
theorem eval_20 (w0 : World) (ds : List TPattern) (s : ByteArray) (M : Nat) (A : Option Addr) (c d : Nat) (t : ByteArray) (n lo hi : Int) (ks : List TPattern) (hs : s.size ≤ 120) (hd : d ≤ 2999) (w : World) (vs : List Value) (S : Nat → Prop) (g a : Nat) (hq : Dat.HoldVals w0 S (TPattern.mk 20 t n lo hi ks).D vs) (hb0 : Bel w0 w) (hM : w0.heap.size ≤ M) (hst : StI w M A ds.length c s ((g : Int) + 1)) (hg : g ≤ d) (ha : a ≤ s.size) (hds : ∀ q ∈ ds, q.vld ds.length = true) (IH : ∀ q, q.vld ds.length = true → ImpC w0 ds s M A c d q) (hv : (TPattern.mk 20 t n lo hi ks).vld ds.length = true) (Sd : Nat → Prop) (hR : Row w0 Sd 6 A c (ds.map TPattern.D)) :
  Calls Try.prog 29 #[.pointer (some ⟨M, 0, none⟩), .agg vs.toArray, .int .i64 a] w (EndsPostI w M A ds.length c s ((g : Int) + 1) (endsE ds s (d + 1) (g + 1) (.mk 20 t n lo hi ks) a)) := by
 have hn := nodeN_var (vld_node hv).2 (by simp)
 obtain ⟨m, rfl⟩ := Int.eq_ofNat_of_zero_le hn.1
 have hmn : m < ds.length := by omega
 have HRD := hide hR
 have hcd := hR.1
 simp only [List.length_map] at hcd
 have hcm := hR.2.1
 unfold maxLen at hcm
 clear hR
 obtain ⟨Aq, cq, rfl, gop, gt, gn, glo, ghi, gR⟩ := TPattern.vals hq
 have HQ := hide hq
 have HRQ := hide gR
 have HST := hide hst
 have HB0 := hide hb0
 have hM1 := hst.1
 have hqc := gR.1
 have hqm := gR.2.1
 simp only [List.length_map, List.length_cons, List.length_nil, Nat.reduceAdd] at hqc
 unfold maxLen at hqm gt
 clear hq gR hb0 hst
 have hne : ¬ M = w.heap.size := by omega
 have hne2 : ¬ w.heap.size = M := by omega
 have hd1 : decide (0 < (g : Int) + 1) = true := decide_eq_true (by omega)
 have hInA : InI (a : Int) := by unfold InI; omega
 go_enter Try.func29, Try.ntmps29
 go_upto_region 3 with (go_at_call 50; refine (step_any _ M A ds.length c s _ (StI.bel HST.out bl) (by omega) (by omega)).mono ?_; rintro e w1 ⟨rfl, hst1, hoff1⟩; rw [hd1])
 have HS1 := hide (show StI w1 M A ds.length c s (g : Int) by have h := hst1; rw [show (g : Int) + 1 - 1 = (g : Int) by omega] at h; exact h)
 have hz1 := hoff1.size
 simp only [World.size_alloc] at hz1
 have hx1 := hoff1.same w.heap.size hne2 (by simp)
 have p_0 : w1.cell? ⟨w.heap.size, 0, none⟩ = some (.int .i64 20) := (hx1.1 0).trans (by simp)
 have p_1 : w1.cell? ⟨w.heap.size, 1, none⟩ = some (.string t) := (hx1.1 1).trans (by simp)
 have p_2 : w1.cell? ⟨w.heap.size, 2, none⟩ = some (.int .i64 (m : Int)) := (hx1.1 2).trans (by simp)
 have p_3 : w1.cell? ⟨w.heap.size, 3, none⟩ = some (.int .i64 lo) := (hx1.1 3).trans (by simp)
 have p_4 : w1.cell? ⟨w.heap.size, 4, none⟩ = some (.int .i64 hi) := (hx1.1 4).trans (by simp)
 have p_5 : w1.cell? ⟨w.heap.size, 5, none⟩ = some (.slice Aq ks.length cq) := (hx1.1 5).trans (by simp)
 have HF1 := hide (OffS.via (OffS.of_bel (fun b => b ≠ M) (show Bel w (w.alloc (.cells #[.int .i64 20, .string t, .int .i64 (m : Int), .int .i64 lo, .int .i64 hi, .slice Aq ks.length cq] 28)) from bl)) hoff1 (fun b hb _ => hb))
 clear hst1 hoff1 hx1
 obtain ⟨hM2, -, -, z1, -⟩ := HS1.out
 have hl1 : w.heap.size < w1.heap.size := by omega
 have hn1 : ¬ w.heap.size = w1.heap.size := by omega
 have hnm1 : ¬ M = w1.heap.size := by omega
 go_region_held3 (fun w' => w'.cell? ⟨w.heap.size, 0, none⟩ = some (.int .i64 20) ∧ w'.cell? ⟨w.heap.size, 1, none⟩ = some (.string t) ∧ w'.cell? ⟨w.heap.size, 2, none⟩ = some (.int .i64 (m : Int)) ∧ w'.cell? ⟨w.heap.size, 3, none⟩ = some (.int .i64 lo) ∧ w'.cell? ⟨w.heap.size, 4, none⟩ = some (.int .i64 hi) ∧ w'.cell? ⟨w.heap.size, 5, none⟩ = some (.slice Aq ks.length cq) ∧ w'.cell? ⟨M, 1, none⟩ = some (.string s)) (go_keep) (first | (go_at_call 51; refine (simple_20 (m : Int) lo hi t s a Aq ks.length cq _).mono ?_; rintro e w2 ⟨rfl, hb2⟩; (have hz2 := hb2.sz; obtain ⟨hk2_0, hf2_0, hl2_0, hn2_0⟩ := hb2.lay (w.heap.size); obtain ⟨hk2_1, hf2_1, hl2_1, hn2_1⟩ := hb2.lay (M))))
 go_upto_region 8 with (fail)
 refine wp_namedJ fun wA hwA => ?_
 have hbA : Bel w1 wA := by rw [← hwA]; exact bl
 have hzA := hbA.size
 have k0 := (hbA.box w.heap.size hl1 _).trans p_0
 have k1 := (hbA.box w.heap.size hl1 _).trans p_1
 have k2 := (hbA.box w.heap.size hl1 _).trans p_2
 have k3 := (hbA.box w.heap.size hl1 _).trans p_3
 have k4 := (hbA.box w.heap.size hl1 _).trans p_4
 have k5 := (hbA.box w.heap.size hl1 _).trans p_5
 have hlA : w.heap.size < wA.heap.size := by omega
 have hMA : M < wA.heap.size := by omega
 have hnA : ¬ w.heap.size = wA.heap.size := by omega
 have hnM : ¬ M = wA.heap.size := by omega
 have HFA := hide (OffS.bel HF1.out hbA)
 have HSA := hide (StI.bel HS1.out hbA)
 have HBA := hide (show Bel w0 wA from HFA.out.toBel HB0.out (fun x hx => by omega))
 clear hwA hbA hzA p_0 p_1 p_2 p_3 p_4 p_5 z1
 obtain ⟨-, hfA, m0, m1, m2, m3⟩ := HSA.out
 have hng : decide ((g : Int) < 0) = false := by simp
 rw [hng] at m3
 obtain ⟨b1, o1, y1_0, y1_1, y1_2, y1_3, y1_4, y1_5, A1_5, C1_5, hA1, hS1, hl1, hx1, hv1, g1_0, g1_1, g1_2, g1_3, g1_4, g1_5, c1_0, c1_1, c1_2, c1_3, c1_4, c1_5⟩ := TPattern.at HRD.out m hmn
 subst hA1
 have HV1 := hide hv1
 clear hv1 hx1 hS1 g1_0 g1_1 g1_2 g1_3 g1_4 g1_5
 have hlb1 : b1 < wA.heap.size := Nat.lt_of_lt_of_le hl1 (Bel.size HBA.out)
 have hMb1 : b1 ≠ M := by omega
 replace c1_0 := (HBA.out.box b1 hl1 _).trans c1_0
 replace c1_1 := (HBA.out.box b1 hl1 _).trans c1_1
 replace c1_2 := (HBA.out.box b1 hl1 _).trans c1_2
 replace c1_3 := (HBA.out.box b1 hl1 _).trans c1_3
 replace c1_4 := (HBA.out.box b1 hl1 _).trans c1_4
 replace c1_5 := (HBA.out.box b1 hl1 _).trans c1_5
 have hvq : ds[m].vld ds.length = true := hds _ (List.getElem_mem hmn)
 have HEQ := hide (ends20_eq (s := s) (d := d) (g := g) (a := a) (t := t) (lo := lo) (hi := hi) (ks := ks) (n := (m : Int)) (q := ds[m]) (by rw [Int.toNat_natCast]; exact List.getElem?_eq_getElem hmn))
 have hn0 : 0 ≤ (m : Int) := hn.1
 have hn1x : (m : Int) < (ds.length : Int) := hn.2
 go_wp2_with (fail)
 refine wp_region_held_drew (S := fun w' => w'.cell? ⟨M, 0, none⟩ = some (.slice (some ⟨b1, o1, none⟩) ds.length c) ∧ w'.cell? ⟨w.heap.size, 2, none⟩ = some (.int .i64 (m : Int)) ∧ w'.cell? ⟨b1, o1 + m * 6, none⟩ = some (.int .i64 y1_0) ∧ w'.cell? ⟨b1, o1 + m * 6 + 1, none⟩ = some (.string y1_1) ∧ w'.cell? ⟨b1, o1 + m * 6 + 2, none⟩ = some (.int .i64 y1_2) ∧ w'.cell? ⟨b1, o1 + m * 6 + 3, none⟩ = some (.int .i64 y1_3) ∧ w'.cell? ⟨b1, o1 + m * 6 + 4, none⟩ = some (.int .i64 y1_4) ∧ w'.cell? ⟨b1, o1 + m * 6 + 5, none⟩ = some (.slice A1_5 y1_5.length C1_5)) (by kernel_rfl) ?_ (fun hHeld => ?_)
 ·
  exact ⟨m0, k2, c1_0, c1_1, c1_2, c1_3, c1_4, c1_5⟩
 refine tkI 0 ?_
 refine tkI 1 ?_
 refine tkI 2 ?_
 refine tkI 3 ?_
 refine tkI 4 ?_
 refine tkI 5 ?_
 refine tkI 6 ?_
 refine tkI 7 ?_
 refine tkI 8 ?_
 refine tkI 9 ?_
 refine wpAnyH_ready (rs := [10]) (by kernel_rfl) (by simp) ?_
 refine AllReadyH.cons (o := _) rfl (fun K hK => ?_) AllReadyH.nil
 go_simp
 clear hHeld
 go_at_call 29
 refine (IH ds[m] hvq _ _ Sd (g : Int) (a : Int) HV1.out (Bel.trans HBA.out bl) hM (StI.bel HSA.out bl) (by omega) (by omega) (fun _ => by omega) hInA).mono ?_
 rintro e w1x ⟨v1, L1, es1, st1, f1, rfl, hst1, hoff1, hO1, hB1, hC1, hout1⟩
 rw [resE_nat] at hout1
 have HOUT1 := hide hout1
 have HST1 := hide hst1
 have HOF1 := hide (OffS.via (OffS.of_bel (fun b => b ≠ M) (show Bel wA wA.drew from bl)) hoff1 (fun b h _ => h))
 have HOD1 := hide hO1
 have HB1 := hide hB1
 have HC1 := hide hC1
 have hzw1 := hoff1.size
 simp only [World.size_drew] at hzw1
 have hx1 := hoff1.same w.heap.size hne2 (by simpa using hlA)
 have hb1x := hoff1.same b1 hMb1 (by simpa using hlb1)
 obtain ⟨-, -, z0, z1, z2⟩ := HST1.out
 refine hK.out _ _ ?_ (fun hHeld => ?_)
 ·
  exact ⟨z0, (hx1.1 _).trans k2, (hb1x.1 _).trans c1_0, (hb1x.1 _).trans c1_1, (hb1x.1 _).trans c1_2, (hb1x.1 _).trans c1_3, (hb1x.1 _).trans c1_4, (hb1x.1 _).trans c1_5⟩
 clear hK K
 (try simp only [Act.put, List.setIfInBounds_toArray, List.set_cons_zero, List.set_cons_succ, List.getElem_toArray, List.getElem_cons_zero, List.getElem_cons_succ])
 refine tkI 11 ?_
 refine tkI 12 ?_
 refine tkI 13 ?_
 refine tkI 14 ?_
 refine wpAnyH_done (by kernel_rfl) ?_ _
 have hlw1 : w.heap.size < w1x.heap.size := by omega
 have hMw1 : M < w1x.heap.size := by omega
 go_wp2_with (fail)
 all_goals
  go_returns
  rw [HEQ.out]
  exact ⟨_, L1, es1, st1, f1, rfl, StI.bel HST1.out bl, OffS.trans HFA.out (OffS.bel HOF1.out bl), OwnD.bel HOD1.out bl, fun b hb => by have := HB1.out b hb; simp only [World.size_drew] at this; omega, fun x hx => by have := HC1.out x hx; omega, OutE.up HOUT1.out⟩
end Go.Proofs.Ytdjbfneniohaaaa
