/- The program's evaluation: the short operations. -/
import Derived.Test.YtdjbfneniohaaaaPJb
import Derived.Deep.RegionHeld3
import Derived.Deep.Cut
import Derived.OwnWalk
namespace Go.Proofs.Ytdjbfneniohaaaa
set_option linter.unusedVariables false
set_option linter.unusedSimpArgs false
set_option maxRecDepth 100000
open Go.RowKit
set_option maxHeartbeats 4000000 in
theorem eval_dead (w0 : World) (ds : List TPattern) (s : ByteArray) (M : Nat) (A : Option Addr) (c d : Nat) (q : TPattern) (w : World) (vs : List Value) (S : Nat → Prop) (f a : Int) (hq : Dat.HoldVals w0 S q.D vs) (hb0 : Bel w0 w) (hM : w0.heap.size ≤ M) (hst : StI w M A ds.length c s f) (hf : f ≤ 0) (hf2 : -1000000000 ≤ f) :
  Calls Try.prog 29 #[.pointer (some ⟨M, 0, none⟩), .agg vs.toArray, .int .i64 a] w (EndsPostI w M A ds.length c s f (resE ds s d f q a)) := by
 obtain ⟨op, t, n, lo, hi, ks⟩ := q
 obtain ⟨Aq, cq, rfl, gop, gt, gn, glo, ghi, gR⟩ := TPattern.vals hq
 have HST := hide hst
 have hM1 := hst.1
 clear hq gR hb0 hst
 have hd1 : decide (0 < f) = false := by simp; omega
 have hne : ¬ M = w.heap.size := by omega
 have hne2 : ¬ w.heap.size = M := by omega
 have HE := hide (show resE ds s d f (.mk op t n lo hi ks) a = none by
  unfold resE
  split
  ·
   rw [show f.toNat = 0 by omega]
   cases d <;> simp [endsE]
  ·
   rfl)
 go_enter Try.func29, Try.ntmps29
 go_wp2_with (go_at_call 50; refine (step_any _ M A ds.length c s _ (StI.bel HST.out bl) (by omega) (by omega)).mono ?_; rintro e w1 ⟨rfl, hst1, hoff1⟩; rw [hd1])
 all_goals
  go_returns
  rw [HE.out]
  exact ⟨_, [], [], false, f - 1, rfl, StI.bel hst1 bl, OffS.via (OffS.of_bel (fun b => b ≠ M) (show Bel w (w.alloc (.cells #[.int .i64 op, .string t, .int .i64 n, .int .i64 lo, .int .i64 hi, .slice Aq ks.length cq] 28)) from bl)) (OffS.bel hoff1 bl) (fun b hb _ => hb), OwnD.nil _ _ _, fun b hb => hb.elim (fun h => by cases h) (fun h => by cases h), (fun x hx => by cases hx), Or.inr ⟨rfl, by omega, by simp; omega, by split <;> omega, fun _ => rfl⟩⟩
set_option maxHeartbeats 4000000 in
theorem eval_18 (w0 : World) (ds : List TPattern) (s : ByteArray) (M : Nat) (A : Option Addr) (c d : Nat) (t : ByteArray) (n lo hi : Int) (ks : List TPattern) (hs : s.size ≤ 120) (hd : d ≤ 2999) (w : World) (vs : List Value) (S : Nat → Prop) (g a : Nat) (hq : Dat.HoldVals w0 S (TPattern.mk 18 t n lo hi ks).D vs) (hb0 : Bel w0 w) (hM : w0.heap.size ≤ M) (hst : StI w M A ds.length c s ((g : Int) + 1)) (hg : g ≤ d) (ha : a ≤ s.size) :
  Calls Try.prog 29 #[.pointer (some ⟨M, 0, none⟩), .agg vs.toArray, .int .i64 a] w (EndsPostI w M A ds.length c s ((g : Int) + 1) (endsE ds s (d + 1) (g + 1) (.mk 18 t n lo hi ks) a)) := by
 obtain ⟨Aq, cq, rfl, gop, gt, gn, glo, ghi, gR⟩ := TPattern.vals hq
 have HQ := hide hq
 have HRQ := hide gR
 have HST := hide hst
 have HB0 := hide hb0
 have hM1 := hst.1
 have hqc := gR.1
 have hqm := gR.2.1
 simp only [List.length_map, List.length_cons, List.length_nil, Nat.reduceAdd] at hqc
 unfold maxLen at hqm gt
 clear hq gR hb0 hst
 have hne : ¬ M = w.heap.size := by omega
 have hne2 : ¬ w.heap.size = M := by omega
 have hd1 : decide (0 < (g : Int) + 1) = true := decide_eq_true (by omega)
 have hInA : InI (a : Int) := by unfold InI; omega
 go_enter Try.func29, Try.ntmps29
 go_upto_region 3 with (go_at_call 50; refine (step_any _ M A ds.length c s _ (StI.bel HST.out bl) (by omega) (by omega)).mono ?_; rintro e w1 ⟨rfl, hst1, hoff1⟩; rw [hd1])
 have HS1 := hide (show StI w1 M A ds.length c s (g : Int) by have h := hst1; rw [show (g : Int) + 1 - 1 = (g : Int) by omega] at h; exact h)
 have hz1 := hoff1.size
 simp only [World.size_alloc] at hz1
 have hx1 := hoff1.same w.heap.size hne2 (by simp)
 have p_0 : w1.cell? ⟨w.heap.size, 0, none⟩ = some (.int .i64 18) := (hx1.1 0).trans (by simp)
 have p_1 : w1.cell? ⟨w.heap.size, 1, none⟩ = some (.string t) := (hx1.1 1).trans (by simp)
 have p_2 : w1.cell? ⟨w.heap.size, 2, none⟩ = some (.int .i64 n) := (hx1.1 2).trans (by simp)
 have p_3 : w1.cell? ⟨w.heap.size, 3, none⟩ = some (.int .i64 lo) := (hx1.1 3).trans (by simp)
 have p_4 : w1.cell? ⟨w.heap.size, 4, none⟩ = some (.int .i64 hi) := (hx1.1 4).trans (by simp)
 have p_5 : w1.cell? ⟨w.heap.size, 5, none⟩ = some (.slice Aq ks.length cq) := (hx1.1 5).trans (by simp)
 have HF1 := hide (OffS.via (OffS.of_bel (fun b => b ≠ M) (show Bel w (w.alloc (.cells #[.int .i64 18, .string t, .int .i64 n, .int .i64 lo, .int .i64 hi, .slice Aq ks.length cq] 28)) from bl)) hoff1 (fun b hb _ => hb))
 clear hst1 hoff1 hx1
 obtain ⟨hM2, -, -, z1, -⟩ := HS1.out
 have hl1 : w.heap.size < w1.heap.size := by omega
 have hn1 : ¬ w.heap.size = w1.heap.size := by omega
 have hnm1 : ¬ M = w1.heap.size := by omega
 go_region_held3 (fun w' => w'.cell? ⟨w.heap.size, 0, none⟩ = some (.int .i64 18) ∧ w'.cell? ⟨w.heap.size, 1, none⟩ = some (.string t) ∧ w'.cell? ⟨w.heap.size, 2, none⟩ = some (.int .i64 n) ∧ w'.cell? ⟨w.heap.size, 3, none⟩ = some (.int .i64 lo) ∧ w'.cell? ⟨w.heap.size, 4, none⟩ = some (.int .i64 hi) ∧ w'.cell? ⟨w.heap.size, 5, none⟩ = some (.slice Aq ks.length cq) ∧ w'.cell? ⟨M, 1, none⟩ = some (.string s)) (go_keep) (first | (go_at_call 51; refine (simple_18 n lo hi t s a Aq ks.length cq _).mono ?_; rintro e w2 ⟨rfl, hb2⟩; (have hz2 := hb2.sz; obtain ⟨hk2_0, hf2_0, hl2_0, hn2_0⟩ := hb2.lay (w.heap.size); obtain ⟨hk2_1, hf2_1, hl2_1, hn2_1⟩ := hb2.lay (M))))
 go_upto_region 8 with (fail)
 refine wp_namedJ fun wA hwA => ?_
 have hbA : Bel w1 wA := by rw [← hwA]; exact bl
 have hzA := hbA.size
 have k0 := (hbA.box w.heap.size hl1 _).trans p_0
 have k1 := (hbA.box w.heap.size hl1 _).trans p_1
 have k2 := (hbA.box w.heap.size hl1 _).trans p_2
 have k3 := (hbA.box w.heap.size hl1 _).trans p_3
 have k4 := (hbA.box w.heap.size hl1 _).trans p_4
 have k5 := (hbA.box w.heap.size hl1 _).trans p_5
 have hlA : w.heap.size < wA.heap.size := by omega
 have hMA : M < wA.heap.size := by omega
 have hnA : ¬ w.heap.size = wA.heap.size := by omega
 have hnM : ¬ M = wA.heap.size := by omega
 have HFA := hide (OffS.bel HF1.out hbA)
 have HSA := hide (StI.bel HS1.out hbA)
 have HBA := hide (show Bel w0 wA from HFA.out.toBel HB0.out (fun x hx => by omega))
 clear hwA hbA hzA p_0 p_1 p_2 p_3 p_4 p_5 z1
 obtain ⟨-, hfA, m0, m1, m2, m3⟩ := HSA.out
 have hng : decide ((g : Int) < 0) = false := by simp
 rw [hng] at m3
 have HE := hide (show endsE ds s (d + 1) (g + 1) (.mk 18 t n lo hi ks) a = some ([.mk a []], false, g) by unfold endsE; rw [if_neg (by decide), if_neg (by decide), if_neg (by decide), if_neg (by decide), if_neg (by decide), if_neg (by decide), if_pos (by decide)])
 go_wp2_with (fail)
 all_goals
  go_returns
  rw [HE.out]
  exact ⟨_, [], [.mk a []], false, g, rfl, StI.bel HSA.out bl, OffS.bel HFA.out bl, OwnD.lit1 (k := 2) _ 36 (TEnding.own_mk (x0 := (a : Int)) (x1 := []) hInA (OwnRow.nil _ 3 none 0 (by unfold maxLen; omega))) rfl List.nodup_nil, fun b hb => hb.elim (fun h => by have h2 := Option.some.inj (show some wA.heap.size = some b from h); omega) (fun h => by cases h), fun x hx => by rw [List.mem_singleton.1 hx]; simp only [TEnding.cs, List.length_nil]; omega, Or.inl ⟨_, _, g, rfl, rfl, rfl, rfl⟩⟩
set_option maxHeartbeats 4000000 in
theorem eval_19 (w0 : World) (ds : List TPattern) (s : ByteArray) (M : Nat) (A : Option Addr) (c d : Nat) (t : ByteArray) (n lo hi : Int) (ks : List TPattern) (hs : s.size ≤ 120) (hd : d ≤ 2999) (w : World) (vs : List Value) (S : Nat → Prop) (g a : Nat) (hq : Dat.HoldVals w0 S (TPattern.mk 19 t n lo hi ks).D vs) (hb0 : Bel w0 w) (hM : w0.heap.size ≤ M) (hst : StI w M A ds.length c s ((g : Int) + 1)) (hg : g ≤ d) (ha : a ≤ s.size) :
  Calls Try.prog 29 #[.pointer (some ⟨M, 0, none⟩), .agg vs.toArray, .int .i64 a] w (EndsPostI w M A ds.length c s ((g : Int) + 1) (endsE ds s (d + 1) (g + 1) (.mk 19 t n lo hi ks) a)) := by
 obtain ⟨Aq, cq, rfl, gop, gt, gn, glo, ghi, gR⟩ := TPattern.vals hq
 have HQ := hide hq
 have HRQ := hide gR
 have HST := hide hst
 have HB0 := hide hb0
 have hM1 := hst.1
 have hqc := gR.1
 have hqm := gR.2.1
 simp only [List.length_map, List.length_cons, List.length_nil, Nat.reduceAdd] at hqc
 unfold maxLen at hqm gt
 clear hq gR hb0 hst
 have hne : ¬ M = w.heap.size := by omega
 have hne2 : ¬ w.heap.size = M := by omega
 have hd1 : decide (0 < (g : Int) + 1) = true := decide_eq_true (by omega)
 have hInA : InI (a : Int) := by unfold InI; omega
 go_enter Try.func29, Try.ntmps29
 go_upto_region 3 with (go_at_call 50; refine (step_any _ M A ds.length c s _ (StI.bel HST.out bl) (by omega) (by omega)).mono ?_; rintro e w1 ⟨rfl, hst1, hoff1⟩; rw [hd1])
 have HS1 := hide (show StI w1 M A ds.length c s (g : Int) by have h := hst1; rw [show (g : Int) + 1 - 1 = (g : Int) by omega] at h; exact h)
 have hz1 := hoff1.size
 simp only [World.size_alloc] at hz1
 have hx1 := hoff1.same w.heap.size hne2 (by simp)
 have p_0 : w1.cell? ⟨w.heap.size, 0, none⟩ = some (.int .i64 19) := (hx1.1 0).trans (by simp)
 have p_1 : w1.cell? ⟨w.heap.size, 1, none⟩ = some (.string t) := (hx1.1 1).trans (by simp)
 have p_2 : w1.cell? ⟨w.heap.size, 2, none⟩ = some (.int .i64 n) := (hx1.1 2).trans (by simp)
 have p_3 : w1.cell? ⟨w.heap.size, 3, none⟩ = some (.int .i64 lo) := (hx1.1 3).trans (by simp)
 have p_4 : w1.cell? ⟨w.heap.size, 4, none⟩ = some (.int .i64 hi) := (hx1.1 4).trans (by simp)
 have p_5 : w1.cell? ⟨w.heap.size, 5, none⟩ = some (.slice Aq ks.length cq) := (hx1.1 5).trans (by simp)
 have HF1 := hide (OffS.via (OffS.of_bel (fun b => b ≠ M) (show Bel w (w.alloc (.cells #[.int .i64 19, .string t, .int .i64 n, .int .i64 lo, .int .i64 hi, .slice Aq ks.length cq] 28)) from bl)) hoff1 (fun b hb _ => hb))
 clear hst1 hoff1 hx1
 obtain ⟨hM2, -, -, z1, -⟩ := HS1.out
 have hl1 : w.heap.size < w1.heap.size := by omega
 have hn1 : ¬ w.heap.size = w1.heap.size := by omega
 have hnm1 : ¬ M = w1.heap.size := by omega
 go_region_held3 (fun w' => w'.cell? ⟨w.heap.size, 0, none⟩ = some (.int .i64 19) ∧ w'.cell? ⟨w.heap.size, 1, none⟩ = some (.string t) ∧ w'.cell? ⟨w.heap.size, 2, none⟩ = some (.int .i64 n) ∧ w'.cell? ⟨w.heap.size, 3, none⟩ = some (.int .i64 lo) ∧ w'.cell? ⟨w.heap.size, 4, none⟩ = some (.int .i64 hi) ∧ w'.cell? ⟨w.heap.size, 5, none⟩ = some (.slice Aq ks.length cq) ∧ w'.cell? ⟨M, 1, none⟩ = some (.string s)) (go_keep) (first | (go_at_call 51; refine (simple_19 n lo hi t s a Aq ks.length cq _).mono ?_; rintro e w2 ⟨rfl, hb2⟩; (have hz2 := hb2.sz; obtain ⟨hk2_0, hf2_0, hl2_0, hn2_0⟩ := hb2.lay (w.heap.size); obtain ⟨hk2_1, hf2_1, hl2_1, hn2_1⟩ := hb2.lay (M))))
 go_upto_region 8 with (fail)
 refine wp_namedJ fun wA hwA => ?_
 have hbA : Bel w1 wA := by rw [← hwA]; exact bl
 have hzA := hbA.size
 have k0 := (hbA.box w.heap.size hl1 _).trans p_0
 have k1 := (hbA.box w.heap.size hl1 _).trans p_1
 have k2 := (hbA.box w.heap.size hl1 _).trans p_2
 have k3 := (hbA.box w.heap.size hl1 _).trans p_3
 have k4 := (hbA.box w.heap.size hl1 _).trans p_4
 have k5 := (hbA.box w.heap.size hl1 _).trans p_5
 have hlA : w.heap.size < wA.heap.size := by omega
 have hMA : M < wA.heap.size := by omega
 have hnA : ¬ w.heap.size = wA.heap.size := by omega
 have hnM : ¬ M = wA.heap.size := by omega
 have HFA := hide (OffS.bel HF1.out hbA)
 have HSA := hide (StI.bel HS1.out hbA)
 have HBA := hide (show Bel w0 wA from HFA.out.toBel HB0.out (fun x hx => by omega))
 clear hwA hbA hzA p_0 p_1 p_2 p_3 p_4 p_5 z1
 obtain ⟨-, hfA, m0, m1, m2, m3⟩ := HSA.out
 have hng : decide ((g : Int) < 0) = false := by simp
 rw [hng] at m3
 have HE := hide (show endsE ds s (d + 1) (g + 1) (.mk 19 t n lo hi ks) a = some ([.mk a []], true, g) by unfold endsE; rw [if_neg (by decide), if_neg (by decide), if_neg (by decide), if_neg (by decide), if_neg (by decide), if_neg (by decide), if_neg (by decide), if_pos (by decide)])
 go_wp2_with (fail)
 all_goals
  go_returns
  rw [HE.out]
  exact ⟨_, [], [.mk a []], true, g, rfl, StI.bel HSA.out bl, OffS.bel HFA.out bl, OwnD.lit1 (k := 2) _ 36 (TEnding.own_mk (x0 := (a : Int)) (x1 := []) hInA (OwnRow.nil _ 3 none 0 (by unfold maxLen; omega))) rfl List.nodup_nil, fun b hb => hb.elim (fun h => by have h2 := Option.some.inj (show some wA.heap.size = some b from h); omega) (fun h => by cases h), fun x hx => by rw [List.mem_singleton.1 hx]; simp only [TEnding.cs, List.length_nil]; omega, Or.inl ⟨_, _, g, rfl, rfl, rfl, rfl⟩⟩
set_option maxHeartbeats 4000000 in
theorem eval_21 (w0 : World) (ds : List TPattern) (s : ByteArray) (M : Nat) (A : Option Addr) (c d : Nat) (t : ByteArray) (n lo hi : Int) (ks : List TPattern) (hs : s.size ≤ 120) (hd : d ≤ 2999) (w : World) (vs : List Value) (S : Nat → Prop) (g a : Nat) (hq : Dat.HoldVals w0 S (TPattern.mk 21 t n lo hi ks).D vs) (hb0 : Bel w0 w) (hM : w0.heap.size ≤ M) (hst : StI w M A ds.length c s ((g : Int) + 1)) (hg : g ≤ d) (ha : a ≤ s.size) :
  Calls Try.prog 29 #[.pointer (some ⟨M, 0, none⟩), .agg vs.toArray, .int .i64 a] w (EndsPostI w M A ds.length c s ((g : Int) + 1) (endsE ds s (d + 1) (g + 1) (.mk 21 t n lo hi ks) a)) := by
 obtain ⟨Aq, cq, rfl, gop, gt, gn, glo, ghi, gR⟩ := TPattern.vals hq
 have HQ := hide hq
 have HRQ := hide gR
 have HST := hide hst
 have HB0 := hide hb0
 have hM1 := hst.1
 have hqc := gR.1
 have hqm := gR.2.1
 simp only [List.length_map, List.length_cons, List.length_nil, Nat.reduceAdd] at hqc
 unfold maxLen at hqm gt
 clear hq gR hb0 hst
 have hne : ¬ M = w.heap.size := by omega
 have hne2 : ¬ w.heap.size = M := by omega
 have hd1 : decide (0 < (g : Int) + 1) = true := decide_eq_true (by omega)
 have hInA : InI (a : Int) := by unfold InI; omega
 go_enter Try.func29, Try.ntmps29
 go_upto_region 3 with (go_at_call 50; refine (step_any _ M A ds.length c s _ (StI.bel HST.out bl) (by omega) (by omega)).mono ?_; rintro e w1 ⟨rfl, hst1, hoff1⟩; rw [hd1])
 have HS1 := hide (show StI w1 M A ds.length c s (g : Int) by have h := hst1; rw [show (g : Int) + 1 - 1 = (g : Int) by omega] at h; exact h)
 have hz1 := hoff1.size
 simp only [World.size_alloc] at hz1
 have hx1 := hoff1.same w.heap.size hne2 (by simp)
 have p_0 : w1.cell? ⟨w.heap.size, 0, none⟩ = some (.int .i64 21) := (hx1.1 0).trans (by simp)
 have p_1 : w1.cell? ⟨w.heap.size, 1, none⟩ = some (.string t) := (hx1.1 1).trans (by simp)
 have p_2 : w1.cell? ⟨w.heap.size, 2, none⟩ = some (.int .i64 n) := (hx1.1 2).trans (by simp)
 have p_3 : w1.cell? ⟨w.heap.size, 3, none⟩ = some (.int .i64 lo) := (hx1.1 3).trans (by simp)
 have p_4 : w1.cell? ⟨w.heap.size, 4, none⟩ = some (.int .i64 hi) := (hx1.1 4).trans (by simp)
 have p_5 : w1.cell? ⟨w.heap.size, 5, none⟩ = some (.slice Aq ks.length cq) := (hx1.1 5).trans (by simp)
 have HF1 := hide (OffS.via (OffS.of_bel (fun b => b ≠ M) (show Bel w (w.alloc (.cells #[.int .i64 21, .string t, .int .i64 n, .int .i64 lo, .int .i64 hi, .slice Aq ks.length cq] 28)) from bl)) hoff1 (fun b hb _ => hb))
 clear hst1 hoff1 hx1
 obtain ⟨hM2, -, -, z1, -⟩ := HS1.out
 have hl1 : w.heap.size < w1.heap.size := by omega
 have hn1 : ¬ w.heap.size = w1.heap.size := by omega
 have hnm1 : ¬ M = w1.heap.size := by omega
 go_region_held3 (fun w' => w'.cell? ⟨w.heap.size, 0, none⟩ = some (.int .i64 21) ∧ w'.cell? ⟨w.heap.size, 1, none⟩ = some (.string t) ∧ w'.cell? ⟨w.heap.size, 2, none⟩ = some (.int .i64 n) ∧ w'.cell? ⟨w.heap.size, 3, none⟩ = some (.int .i64 lo) ∧ w'.cell? ⟨w.heap.size, 4, none⟩ = some (.int .i64 hi) ∧ w'.cell? ⟨w.heap.size, 5, none⟩ = some (.slice Aq ks.length cq) ∧ w'.cell? ⟨M, 1, none⟩ = some (.string s)) (go_keep) (first | (go_at_call 51; refine (simple_21 n lo hi t s a Aq ks.length cq _).mono ?_; rintro e w2 ⟨rfl, hb2⟩; (have hz2 := hb2.sz; obtain ⟨hk2_0, hf2_0, hl2_0, hn2_0⟩ := hb2.lay (w.heap.size); obtain ⟨hk2_1, hf2_1, hl2_1, hn2_1⟩ := hb2.lay (M))))
 go_upto_region 8 with (fail)
 refine wp_namedJ fun wA hwA => ?_
 have hbA : Bel w1 wA := by rw [← hwA]; exact bl
 have hzA := hbA.size
 have k0 := (hbA.box w.heap.size hl1 _).trans p_0
 have k1 := (hbA.box w.heap.size hl1 _).trans p_1
 have k2 := (hbA.box w.heap.size hl1 _).trans p_2
 have k3 := (hbA.box w.heap.size hl1 _).trans p_3
 have k4 := (hbA.box w.heap.size hl1 _).trans p_4
 have k5 := (hbA.box w.heap.size hl1 _).trans p_5
 have hlA : w.heap.size < wA.heap.size := by omega
 have hMA : M < wA.heap.size := by omega
 have hnA : ¬ w.heap.size = wA.heap.size := by omega
 have hnM : ¬ M = wA.heap.size := by omega
 have HFA := hide (OffS.bel HF1.out hbA)
 have HSA := hide (StI.bel HS1.out hbA)
 have HBA := hide (show Bel w0 wA from HFA.out.toBel HB0.out (fun x hx => by omega))
 clear hwA hbA hzA p_0 p_1 p_2 p_3 p_4 p_5 z1
 obtain ⟨-, hfA, m0, m1, m2, m3⟩ := HSA.out
 have hng : decide ((g : Int) < 0) = false := by simp
 rw [hng] at m3
 have HE := hide (show endsE ds s (d + 1) (g + 1) (.mk 21 t n lo hi ks) a = some ([], true, g) by unfold endsE; rw [if_neg (by decide), if_neg (by decide), if_neg (by decide), if_neg (by decide), if_neg (by decide), if_neg (by decide), if_neg (by decide), if_neg (by decide), if_neg (by decide), if_pos (by decide)])
 go_wp2_with (fail)
 all_goals
  go_returns
  rw [HE.out]
  exact ⟨_, [], [], true, g, rfl, StI.bel HSA.out bl, OffS.bel HFA.out bl, OwnD.nil _ _ _, fun b hb => hb.elim (fun h => by cases h) (fun h => by cases h), (fun x hx => by cases hx), Or.inl ⟨_, _, g, rfl, rfl, rfl, rfl⟩⟩
end Go.Proofs.Ytdjbfneniohaaaa
