/- The reference's evaluation: the short operations. -/
import Derived.Test.YtdjbfneniohaaaaPJ3
import Derived.Deep.RegionHeld3
import Derived.Deep.Cut
import Derived.OwnWalk
namespace Go.Proofs.Ytdjbfneniohaaaa
set_option linter.unusedVariables false
set_option linter.unusedSimpArgs false
set_option maxRecDepth 100000
open Go.RowKit
set_option maxHeartbeats 4000000 in
theorem l19Ends_dead (w0 : World) (ds : List TPattern) (s : ByteArray) (M : Nat) (A : Option Addr) (c d : Nat) (q : TPattern) (w : World) (vs : List Value) (S : Nat → Prop) (f a : Int) (hq : Dat.HoldVals w0 S q.D vs) (hb0 : Bel w0 w) (hM : w0.heap.size ≤ M) (hst : StE w M A ds.length c s f) (hf : f ≤ 0) (hf2 : -1000000000 ≤ f) :
  Calls Try.prog 32 #[.pointer (some ⟨M, 0, none⟩), .agg vs.toArray, .int .i64 a] w (EndsPost w M A ds.length c s f (resE ds s d f q a)) := by
 obtain ⟨op, t, n, lo, hi, ks⟩ := q
 obtain ⟨Aq, cq, rfl, gop, gt, gn, glo, ghi, gR⟩ := TPattern.vals hq
 have HST := hide hst
 obtain ⟨hM1, hMf, m0, m1, m2⟩ := hst
 clear hq gR hb0
 have hw0 : IntKind.i64.wrap (f - 1) = f - 1 := by rw [IntKind.wrap_i64]; omega
 have hg0 : decide (f - 1 < 0) = true := by simp; omega
 have hne : ¬ M = w.heap.size := by omega
 have hne2 : ¬ w.heap.size = M := by omega
 have HE := hide (show resE ds s d f (.mk op t n lo hi ks) a = none by
  unfold resE
  split
  ·
   rw [show f.toNat = 0 by omega]
   cases d <;> simp [endsE]
  ·
   rfl)
 go_enter Try.func32, Try.ntmps32
 go_wp2_with (fail)
 all_goals
  go_returns
  rw [HE.out]
  exact ⟨_, [], [], false, f - 1, rfl, StE.bel (StE.put HST.out _) bl, osl, OwnD.nil _ _ _, fun b hb => hb.elim (fun h => by cases h) (fun h => by cases h), (fun x hx => by cases hx), Or.inr ⟨rfl, by omega, by simp; omega, by split <;> omega, fun _ => rfl⟩⟩
set_option maxHeartbeats 4000000 in
theorem l19Ends_18 (w0 : World) (ds : List TPattern) (s : ByteArray) (M : Nat) (A : Option Addr) (c d : Nat) (t : ByteArray) (n lo hi : Int) (ks : List TPattern) (hs : s.size ≤ 120) (hd : d ≤ 2999) (w : World) (vs : List Value) (S : Nat → Prop) (g a : Nat) (hq : Dat.HoldVals w0 S (TPattern.mk 18 t n lo hi ks).D vs) (hb0 : Bel w0 w) (hM : w0.heap.size ≤ M) (hst : StE w M A ds.length c s ((g : Int) + 1)) (hg : g ≤ d) (ha : a ≤ s.size) :
  Calls Try.prog 32 #[.pointer (some ⟨M, 0, none⟩), .agg vs.toArray, .int .i64 a] w (EndsPost w M A ds.length c s ((g : Int) + 1) (endsE ds s (d + 1) (g + 1) (.mk 18 t n lo hi ks) a)) := by
 obtain ⟨Aq, cq, rfl, gop, gt, gn, glo, ghi, gR⟩ := TPattern.vals hq
 have HQ := hide hq
 have HRQ := hide gR
 have HST := hide hst
 have HB0 := hide hb0
 obtain ⟨hM1, hMf, m0, m1, m2⟩ := hst
 have hqc := gR.1
 have hqm := gR.2.1
 simp only [List.length_map, List.length_cons, List.length_nil, Nat.reduceAdd] at hqc
 unfold maxLen at hqm gt
 clear hq gR hb0
 have hw0 : IntKind.i64.wrap ((g : Int) + 1 - 1) = (g : Int) := by rw [IntKind.wrap_i64]; omega
 have hg0 : decide ((g : Int) < 0) = false := by simp
 have hne : ¬ M = w.heap.size := by omega
 have hne2 : ¬ w.heap.size = M := by omega
 go_enter Try.func32, Try.ntmps32
 go_upto_region 5 with (fail)
 refine wp_namedJ fun wA hwA => ?_
 have k0 : wA.cell? ⟨w.heap.size, 0, none⟩ = some (.int .i64 18) := by rw [← hwA]; simp [go_sem]
 have k1 : wA.cell? ⟨w.heap.size, 1, none⟩ = some (.string t) := by rw [← hwA]; simp [go_sem]
 have k2 : wA.cell? ⟨w.heap.size, 2, none⟩ = some (.int .i64 n) := by rw [← hwA]; simp [go_sem]
 have k3 : wA.cell? ⟨w.heap.size, 3, none⟩ = some (.int .i64 lo) := by rw [← hwA]; simp [go_sem]
 have k4 : wA.cell? ⟨w.heap.size, 4, none⟩ = some (.int .i64 hi) := by rw [← hwA]; simp [go_sem]
 have k5 : wA.cell? ⟨w.heap.size, 5, none⟩ = some (.slice Aq ks.length cq) := by rw [← hwA]; simp [go_sem]
 have hzA : wA.heap.size = w.heap.size + 2 := by rw [← hwA]; simp
 have hlA : w.heap.size < wA.heap.size := by omega
 have hMA : M < wA.heap.size := by omega
 have hnA : ¬ w.heap.size = wA.heap.size := by omega
 have hnM : ¬ M = wA.heap.size := by omega
 have HZA := hide hzA
 have HFA := hide (show OffS (fun b => b ≠ M) w wA by rw [← hwA]; exact osl)
 have HSA := hide (show StE wA M A ds.length c s (g : Int) by rw [← hwA]; exact StE.bel (StE.put HST.out _) bl)
 have HBA := hide (show Bel w0 wA from HFA.out.toBel HB0.out (fun x hx => by omega))
 have hInA : InI (a : Int) := by unfold InI; omega
 have HHA := hide (show OwnD wA 36 2 (.slice (some ⟨w.heap.size + 1, 0, none⟩) 1 1) [] [(TEnding.mk a []).D] by rw [← hwA]; have h := OwnD.lit1 (k := 2) ((w.setCell ⟨M, 2, none⟩ (.int .i64 g)).alloc (.cells #[.int .i64 18, .string t, .int .i64 n, .int .i64 lo, .int .i64 hi, .slice Aq ks.length cq] 28)) 36 (TEnding.own_mk (x0 := (a : Int)) (x1 := []) hInA (OwnRow.nil _ 3 none 0 (by unfold maxLen; omega))) rfl List.nodup_nil; simpa using h)
 clear hwA hzA m0 m1 m2
 obtain ⟨-, hfA, m0, m1, m2⟩ := HSA.out
 have HE := hide (show endsE ds s (d + 1) (g + 1) (.mk 18 t n lo hi ks) a = some ([.mk a []], false, g) by unfold endsE; rw [if_neg (by decide), if_neg (by decide), if_neg (by decide), if_neg (by decide), if_neg (by decide), if_neg (by decide), if_pos (by decide)])
 go_wp2_with (fail)
 all_goals
  go_returns
  rw [HE.out]
  exact ⟨_, [], [.mk a []], false, g, rfl, StE.bel HSA.out bl, OffS.bel HFA.out bl, OwnD.bel HHA.out bl, fun b hb => hb.elim (fun h => by have := Option.some.inj (show some (w.heap.size + 1) = some b from h); omega) (fun h => by cases h), fun x hx => by rw [List.mem_singleton.1 hx]; simp only [TEnding.cs, List.length_nil]; omega, Or.inl ⟨_, _, g, rfl, rfl, rfl, rfl⟩⟩
set_option maxHeartbeats 4000000 in
theorem l19Ends_19 (w0 : World) (ds : List TPattern) (s : ByteArray) (M : Nat) (A : Option Addr) (c d : Nat) (t : ByteArray) (n lo hi : Int) (ks : List TPattern) (hs : s.size ≤ 120) (hd : d ≤ 2999) (w : World) (vs : List Value) (S : Nat → Prop) (g a : Nat) (hq : Dat.HoldVals w0 S (TPattern.mk 19 t n lo hi ks).D vs) (hb0 : Bel w0 w) (hM : w0.heap.size ≤ M) (hst : StE w M A ds.length c s ((g : Int) + 1)) (hg : g ≤ d) (ha : a ≤ s.size) :
  Calls Try.prog 32 #[.pointer (some ⟨M, 0, none⟩), .agg vs.toArray, .int .i64 a] w (EndsPost w M A ds.length c s ((g : Int) + 1) (endsE ds s (d + 1) (g + 1) (.mk 19 t n lo hi ks) a)) := by
 obtain ⟨Aq, cq, rfl, gop, gt, gn, glo, ghi, gR⟩ := TPattern.vals hq
 have HQ := hide hq
 have HRQ := hide gR
 have HST := hide hst
 have HB0 := hide hb0
 obtain ⟨hM1, hMf, m0, m1, m2⟩ := hst
 have hqc := gR.1
 have hqm := gR.2.1
 simp only [List.length_map, List.length_cons, List.length_nil, Nat.reduceAdd] at hqc
 unfold maxLen at hqm gt
 clear hq gR hb0
 have hw0 : IntKind.i64.wrap ((g : Int) + 1 - 1) = (g : Int) := by rw [IntKind.wrap_i64]; omega
 have hg0 : decide ((g : Int) < 0) = false := by simp
 have hne : ¬ M = w.heap.size := by omega
 have hne2 : ¬ w.heap.size = M := by omega
 go_enter Try.func32, Try.ntmps32
 go_upto_region 5 with (fail)
 refine wp_namedJ fun wA hwA => ?_
 have k0 : wA.cell? ⟨w.heap.size, 0, none⟩ = some (.int .i64 19) := by rw [← hwA]; simp [go_sem]
 have k1 : wA.cell? ⟨w.heap.size, 1, none⟩ = some (.string t) := by rw [← hwA]; simp [go_sem]
 have k2 : wA.cell? ⟨w.heap.size, 2, none⟩ = some (.int .i64 n) := by rw [← hwA]; simp [go_sem]
 have k3 : wA.cell? ⟨w.heap.size, 3, none⟩ = some (.int .i64 lo) := by rw [← hwA]; simp [go_sem]
 have k4 : wA.cell? ⟨w.heap.size, 4, none⟩ = some (.int .i64 hi) := by rw [← hwA]; simp [go_sem]
 have k5 : wA.cell? ⟨w.heap.size, 5, none⟩ = some (.slice Aq ks.length cq) := by rw [← hwA]; simp [go_sem]
 have hzA : wA.heap.size = w.heap.size + 2 := by rw [← hwA]; simp
 have hlA : w.heap.size < wA.heap.size := by omega
 have hMA : M < wA.heap.size := by omega
 have hnA : ¬ w.heap.size = wA.heap.size := by omega
 have hnM : ¬ M = wA.heap.size := by omega
 have HZA := hide hzA
 have HFA := hide (show OffS (fun b => b ≠ M) w wA by rw [← hwA]; exact osl)
 have HSA := hide (show StE wA M A ds.length c s (g : Int) by rw [← hwA]; exact StE.bel (StE.put HST.out _) bl)
 have HBA := hide (show Bel w0 wA from HFA.out.toBel HB0.out (fun x hx => by omega))
 have hInA : InI (a : Int) := by unfold InI; omega
 have HHA := hide (show OwnD wA 36 2 (.slice (some ⟨w.heap.size + 1, 0, none⟩) 1 1) [] [(TEnding.mk a []).D] by rw [← hwA]; have h := OwnD.lit1 (k := 2) ((w.setCell ⟨M, 2, none⟩ (.int .i64 g)).alloc (.cells #[.int .i64 19, .string t, .int .i64 n, .int .i64 lo, .int .i64 hi, .slice Aq ks.length cq] 28)) 36 (TEnding.own_mk (x0 := (a : Int)) (x1 := []) hInA (OwnRow.nil _ 3 none 0 (by unfold maxLen; omega))) rfl List.nodup_nil; simpa using h)
 clear hwA hzA m0 m1 m2
 obtain ⟨-, hfA, m0, m1, m2⟩ := HSA.out
 have HE := hide (show endsE ds s (d + 1) (g + 1) (.mk 19 t n lo hi ks) a = some ([.mk a []], true, g) by unfold endsE; rw [if_neg (by decide), if_neg (by decide), if_neg (by decide), if_neg (by decide), if_neg (by decide), if_neg (by decide), if_neg (by decide), if_pos (by decide)])
 go_wp2_with (fail)
 all_goals
  go_returns
  rw [HE.out]
  exact ⟨_, [], [.mk a []], true, g, rfl, StE.bel HSA.out bl, OffS.bel HFA.out bl, OwnD.bel HHA.out bl, fun b hb => hb.elim (fun h => by have := Option.some.inj (show some (w.heap.size + 1) = some b from h); omega) (fun h => by cases h), fun x hx => by rw [List.mem_singleton.1 hx]; simp only [TEnding.cs, List.length_nil]; omega, Or.inl ⟨_, _, g, rfl, rfl, rfl, rfl⟩⟩
set_option maxHeartbeats 4000000 in
theorem l19Ends_21 (w0 : World) (ds : List TPattern) (s : ByteArray) (M : Nat) (A : Option Addr) (c d : Nat) (t : ByteArray) (n lo hi : Int) (ks : List TPattern) (hs : s.size ≤ 120) (hd : d ≤ 2999) (w : World) (vs : List Value) (S : Nat → Prop) (g a : Nat) (hq : Dat.HoldVals w0 S (TPattern.mk 21 t n lo hi ks).D vs) (hb0 : Bel w0 w) (hM : w0.heap.size ≤ M) (hst : StE w M A ds.length c s ((g : Int) + 1)) (hg : g ≤ d) (ha : a ≤ s.size) :
  Calls Try.prog 32 #[.pointer (some ⟨M, 0, none⟩), .agg vs.toArray, .int .i64 a] w (EndsPost w M A ds.length c s ((g : Int) + 1) (endsE ds s (d + 1) (g + 1) (.mk 21 t n lo hi ks) a)) := by
 obtain ⟨Aq, cq, rfl, gop, gt, gn, glo, ghi, gR⟩ := TPattern.vals hq
 have HQ := hide hq
 have HRQ := hide gR
 have HST := hide hst
 have HB0 := hide hb0
 obtain ⟨hM1, hMf, m0, m1, m2⟩ := hst
 have hqc := gR.1
 have hqm := gR.2.1
 simp only [List.length_map, List.length_cons, List.length_nil, Nat.reduceAdd] at hqc
 unfold maxLen at hqm gt
 clear hq gR hb0
 have hw0 : IntKind.i64.wrap ((g : Int) + 1 - 1) = (g : Int) := by rw [IntKind.wrap_i64]; omega
 have hg0 : decide ((g : Int) < 0) = false := by simp
 have hne : ¬ M = w.heap.size := by omega
 have hne2 : ¬ w.heap.size = M := by omega
 go_enter Try.func32, Try.ntmps32
 go_upto_region 5 with (fail)
 refine wp_namedJ fun wA hwA => ?_
 have k0 : wA.cell? ⟨w.heap.size, 0, none⟩ = some (.int .i64 21) := by rw [← hwA]; simp [go_sem]
 have k1 : wA.cell? ⟨w.heap.size, 1, none⟩ = some (.string t) := by rw [← hwA]; simp [go_sem]
 have k2 : wA.cell? ⟨w.heap.size, 2, none⟩ = some (.int .i64 n) := by rw [← hwA]; simp [go_sem]
 have k3 : wA.cell? ⟨w.heap.size, 3, none⟩ = some (.int .i64 lo) := by rw [← hwA]; simp [go_sem]
 have k4 : wA.cell? ⟨w.heap.size, 4, none⟩ = some (.int .i64 hi) := by rw [← hwA]; simp [go_sem]
 have k5 : wA.cell? ⟨w.heap.size, 5, none⟩ = some (.slice Aq ks.length cq) := by rw [← hwA]; simp [go_sem]
 have hzA : wA.heap.size = w.heap.size + 2 := by rw [← hwA]; simp
 have hlA : w.heap.size < wA.heap.size := by omega
 have hMA : M < wA.heap.size := by omega
 have hnA : ¬ w.heap.size = wA.heap.size := by omega
 have hnM : ¬ M = wA.heap.size := by omega
 have HZA := hide hzA
 have HFA := hide (show OffS (fun b => b ≠ M) w wA by rw [← hwA]; exact osl)
 have HSA := hide (show StE wA M A ds.length c s (g : Int) by rw [← hwA]; exact StE.bel (StE.put HST.out _) bl)
 have HBA := hide (show Bel w0 wA from HFA.out.toBel HB0.out (fun x hx => by omega))
 have hInA : InI (a : Int) := by unfold InI; omega
 have HHA := hide (show OwnD wA 36 2 (.slice (some ⟨w.heap.size + 1, 0, none⟩) 1 1) [] [(TEnding.mk a []).D] by rw [← hwA]; have h := OwnD.lit1 (k := 2) ((w.setCell ⟨M, 2, none⟩ (.int .i64 g)).alloc (.cells #[.int .i64 21, .string t, .int .i64 n, .int .i64 lo, .int .i64 hi, .slice Aq ks.length cq] 28)) 36 (TEnding.own_mk (x0 := (a : Int)) (x1 := []) hInA (OwnRow.nil _ 3 none 0 (by unfold maxLen; omega))) rfl List.nodup_nil; simpa using h)
 clear hwA hzA m0 m1 m2
 obtain ⟨-, hfA, m0, m1, m2⟩ := HSA.out
 have HE := hide (show endsE ds s (d + 1) (g + 1) (.mk 21 t n lo hi ks) a = some ([], true, g) by unfold endsE; rw [if_neg (by decide), if_neg (by decide), if_neg (by decide), if_neg (by decide), if_neg (by decide), if_neg (by decide), if_neg (by decide), if_neg (by decide), if_neg (by decide), if_pos (by decide)])
 go_wp2_with (fail)
 all_goals
  go_returns
  rw [HE.out]
  exact ⟨_, [], [], true, g, rfl, StE.bel HSA.out bl, OffS.bel HFA.out bl, OwnD.nil _ _ _, fun b hb => hb.elim (fun h => by cases h) (fun h => by cases h), (fun x hx => by cases hx), Or.inl ⟨_, _, g, rfl, rfl, rfl, rfl⟩⟩
end Go.Proofs.Ytdjbfneniohaaaa
namespace Go.Proofs.Ytdjbfneniohaaaa
set_option linter.unusedVariables false
set_option linter.unusedSimpArgs false
set_option maxRecDepth 100000
open Go.RowKit
theorem resE_nat (ds : List TPattern) (s : ByteArray) (d g a : Nat) (q : TPattern) : resE ds s d (g : Int) q (a : Int) = endsE ds s d g q a := by simp [resE]
section
variable {ds : List TPattern} {s : ByteArray} {d g a : Nat} {t : ByteArray} {n lo hi : Int} {p q : TPattern}
theorem ends15_none (h : endsE ds s d g p a = none) : endsE ds s (d + 1) (g + 1) (.mk 15 t n lo hi [p, q]) a = none := by (conv => lhs; unfold endsE); rw [if_neg (by decide), if_neg (by decide), if_neg (by decide), if_pos (by decide)]; simp only [h]
theorem ends15_stop {l : List TEnding} {g1 : Nat} (h : endsE ds s d g p a = some (l, true, g1)) : endsE ds s (d + 1) (g + 1) (.mk 15 t n lo hi [p, q]) a = some (l, true, g1) := by (conv => lhs; unfold endsE); rw [if_neg (by decide), if_neg (by decide), if_neg (by decide), if_pos (by decide)]; simp only [h]
theorem ends15_go {l : List TEnding} {g1 : Nat} (h : endsE ds s d g p a = some (l, false, g1)) : endsE ds s (d + 1) (g + 1) (.mk 15 t n lo hi [p, q]) a = (match endsE ds s d g1 q a with | none => none | some (m, halt, g2) => some (l ++ m, halt, g2)) := by (conv => lhs; unfold endsE); rw [if_neg (by decide), if_neg (by decide), if_neg (by decide), if_pos (by decide)]; simp only [h]; rfl
theorem ends14_none (h : endsE ds s d g p a = none) : endsE ds s (d + 1) (g + 1) (.mk 14 t n lo hi [p, q]) a = none := by (conv => lhs; unfold endsE); rw [if_neg (by decide), if_neg (by decide), if_pos (by decide)]; simp only [h]
theorem ends14_go {l : List TEnding} {st : Bool} {g1 : Nat} (h : endsE ds s d g p a = some (l, st, g1)) : endsE ds s (d + 1) (g + 1) (.mk 14 t n lo hi [p, q]) a = orE st (thenE (fun f' a' => endsE ds s d f' q a') (-1) l g1 []) := by (conv => lhs; unfold endsE); rw [if_neg (by decide), if_neg (by decide), if_pos (by decide)]; simp only [h]
theorem ends13_none (h : endsE ds s d g p a = none) : endsE ds s (d + 1) (g + 1) (.mk 13 t n lo hi [p]) a = none := by (conv => lhs; unfold endsE); rw [if_neg (by decide), if_pos (by decide)]; simp only [h]
theorem ends13_go {l : List TEnding} {st : Bool} {g1 : Nat} (h : endsE ds s d g p a = some (l, st, g1)) : endsE ds s (d + 1) (g + 1) (.mk 13 t n lo hi [p]) a = orE st (thenE (fun f' a' => endsE ds s d f' (.mk 13 t n lo hi [p]) a') a l g1 [.mk a []]) := by (conv => lhs; unfold endsE); rw [if_neg (by decide), if_pos (by decide)]; simp only [h]
theorem ends16_none (h : endsE ds s d g p a = none) : endsE ds s (d + 1) (g + 1) (.mk 16 t n lo hi [p]) a = none := by (conv => lhs; unfold endsE); rw [if_neg (by decide), if_neg (by decide), if_neg (by decide), if_neg (by decide), if_pos (by decide)]; simp only [h]
theorem ends16_go {l : List TEnding} {st : Bool} {g1 : Nat} (h : endsE ds s d g p a = some (l, st, g1)) : endsE ds s (d + 1) (g + 1) (.mk 16 t n lo hi [p]) a = some (l.map (putE n a), st, g1) := by (conv => lhs; unfold endsE); rw [if_neg (by decide), if_neg (by decide), if_neg (by decide), if_neg (by decide), if_pos (by decide)]; simp only [h]
theorem ends17_eq : endsE ds s (d + 1) (g + 1) (.mk 17 t n lo hi [p]) a = endsE ds s d g p a := by (conv => lhs; unfold endsE); rw [if_neg (by decide), if_neg (by decide), if_neg (by decide), if_neg (by decide), if_neg (by decide), if_pos (by decide)]
theorem ends20_eq {ks : List TPattern} (h : ds[n.toNat]? = some q) : endsE ds s (d + 1) (g + 1) (.mk 20 t n lo hi ks) a = endsE ds s d g q a := by (conv => lhs; unfold endsE); rw [if_neg (by decide), if_neg (by decide), if_neg (by decide), if_neg (by decide), if_neg (by decide), if_neg (by decide), if_neg (by decide), if_neg (by decide), if_pos (by decide)]; simp only [h]
theorem OutE.facts {vars : Int} {es : List TEnding} {st : Bool} {f1 : Int} (ho : OutE (g : Int) (endsE ds s d g p a) es st f1) (hok : OkE vars s a g (endsE ds s d g p a)) : f1 < g + 1 ∧ -5000 * ((g : Int) + 1) ≤ f1 ∧ es.length ≤ g + 130 ∧ (0 ≤ f1 → es.length + f1 ≤ g) ∧ (0 ≤ f1 → ∀ x ∈ es, 0 ≤ x.pos ∧ x.pos ≤ s.size ∧ x.cs.length ≤ g) := by
 rcases ho with ⟨l, t, g1, r1, r2, r3, r4⟩ | ⟨r1, r2, r3, r4, r5⟩
 ·
  subst r2 r3
  obtain ⟨h1, h2, h3⟩ := hok _ _ _ r1
  refine ⟨by omega, by omega, by omega, fun _ => by omega, fun _ x hx => ?_⟩
  obtain ⟨k, k1, k2, k3, k4, -⟩ := h3 x hx
  omega
 ·
  rw [if_pos (by omega)] at r4
  exact ⟨by omega, r4, by omega, fun h => by omega, fun h => by omega⟩
theorem hqv_of (hds : ∀ q ∈ ds, q.vld ds.length = true) (hq : q.vld ds.length = true) (hd : d ≤ 2999) : ∀ f' a', f' ≤ d → 0 ≤ a' ∧ a' ≤ (s.size : Int) → ∀ l t g2, endsE ds s d f' q a'.toNat = some (l, t, g2) → g2 < f' ∧ l.length + g2 ≤ f' ∧ ∀ y ∈ l, y.cs.length ≤ 3000 := by
 intro f' a' hf ha l t g2 h
 obtain ⟨h1, h2, h3⟩ := endsE_ok (s := s) hds d f' q a'.toNat hq (by omega) l t g2 h
 refine ⟨h1, h2, fun y hy => ?_⟩
 obtain ⟨k, -, -, -, h4, -⟩ := h3 y hy
 omega
theorem put_out {es : List TEnding} {st : Bool} {f1 : Int} (ho : OutE (g : Int) (endsE ds s d g p a) es st f1) : OutE ((g : Int) + 1) (endsE ds s (d + 1) (g + 1) (.mk 16 t n lo hi [p]) a) (es.map (putE n a)) st f1 := by
 rcases ho with ⟨l, t, g1, r1, r2, r3, r4⟩ | ⟨r1, r2, r3, r4, r5⟩
 ·
  subst r2 r3
  exact Or.inl ⟨_, _, g1, ends16_go r1, rfl, rfl, r4⟩
 ·
  rw [if_pos (by omega)] at r4
  exact Or.inr ⟨ends16_none r1, r2, by rw [List.length_map]; omega, by rw [if_pos (by omega)]; omega, fun h => by omega⟩
theorem putE_D {x : TEnding} {b : Int} {cs : List TCapture} (hx : x = .mk b cs) : (putE n a x).D = [Dat.int b, Dat.row 3 ((cs ++ [TCapture.mk n a b]).map TCapture.D)] := by
 subst hx
 simp only [putE, TEnding.pos, TEnding.cs]
 rw [TEnding.D_mk]
theorem arb_out (ha : a ≤ s.size) (hs : s.size ≤ 120) {ks : List TPattern} : OutE ((g : Int) + 1) (endsE ds s (d + 1) (g + 1) (.mk 11 t n lo hi ks) a) ((List.range (s.size + 1 - a)).map fun i => TEnding.mk ((a + i : Nat) : Int) []) false ((g : Int) - ((s.size + 1 - a : Nat) : Int)) := by
 by_cases h : s.size + 1 - a ≤ g
 ·
  exact Or.inl ⟨_, _, g - (s.size + 1 - a), by (conv => lhs; unfold endsE); rw [if_pos (by decide)]; rw [if_pos h], rfl, rfl, by omega⟩
 ·
  exact Or.inr ⟨by (conv => lhs; unfold endsE); rw [if_pos (by decide)]; rw [if_neg h], by omega, by simp; omega, by rw [if_pos (by omega)]; omega, fun h => by omega⟩
def oneL : Option Nat → List TEnding
 | some e => [TEnding.mk (e : Int) []]
 | none => []
theorem one_out {op : Int} {ks : List TPattern} (h11 : ¬ op = 11) (h13 : ¬ op = 13) (h14 : ¬ op = 14) (h15 : ¬ op = 15) (h16 : ¬ op = 16) (h17 : ¬ op = 17) (h18 : ¬ op = 18) (h19 : ¬ op = 19) (h20 : ¬ op = 20) (h21 : ¬ op = 21) (r : Option Nat) (hr : oneE op n lo hi t s a = r) : OutE ((g : Int) + 1) (endsE ds s (d + 1) (g + 1) (.mk op t n lo hi ks) a) (oneL r) false (g : Int) := by
 refine Or.inl ⟨_, _, g, ?_, rfl, rfl, rfl⟩
 (conv => lhs; unfold endsE)
 rw [if_neg h11, if_neg h13, if_neg h14, if_neg h15, if_neg h16, if_neg h17, if_neg h18, if_neg h19, if_neg h20, if_neg h21, hr]
 cases r <;> rfl
theorem OutE.len2 {vars : Int} {es : List TEnding} {st : Bool} {f1 f2 : Int} (ho : OutE f1 (resE ds s d f1 q (a : Int)) es st f2) (hok : ∀ f', OkE vars s a f' (endsE ds s d f' q a)) (hf : f1 ≤ g) : es.length ≤ g + 130 := by
 rcases ho with ⟨l, t, g1, r1, r2, r3, r4⟩ | ⟨r1, r2, r3, r4, r5⟩
 ·
  unfold resE at r1
  by_cases h0 : 0 ≤ f1
  ·
   rw [if_pos h0, Int.toNat_natCast] at r1
   have := (hok _ _ _ _ r1).2.1
   subst r2
   omega
  ·
   rw [if_neg h0] at r1; cases r1
 ·
  omega
theorem OutE.up {r : ResE} {es : List TEnding} {st : Bool} {f1 : Int} (ho : OutE (g : Int) r es st f1) : OutE ((g : Int) + 1) r es st f1 := by
 rcases ho with ⟨l, t, g1, r1, r2, r3, r4⟩ | ⟨r1, r2, r3, r4, r5⟩
 ·
  exact Or.inl ⟨l, t, g1, r1, r2, r3, r4⟩
 ·
  rw [if_pos (by omega)] at r4
  exact Or.inr ⟨r1, r2, by omega, by rw [if_pos (by omega)]; omega, fun h => by omega⟩
theorem or15_stop {es : List TEnding} {f1 : Int} (ho : OutE (g : Int) (endsE ds s d g p a) es true f1) : OutE ((g : Int) + 1) (endsE ds s (d + 1) (g + 1) (.mk 15 t n lo hi [p, q]) a) es true f1 := by
 rcases ho with ⟨l, t, g1, r1, r2, r3, r4⟩ | ⟨r1, r2, r3, r4, r5⟩
 ·
  subst r2 r3
  exact Or.inl ⟨_, _, g1, ends15_stop r1, rfl, rfl, r4⟩
 ·
  rw [if_pos (by omega)] at r4
  exact Or.inr ⟨ends15_none r1, r2, by omega, by rw [if_pos (by omega)]; omega, fun h => by omega⟩
theorem or15_go {vars : Int} {es es2 : List TEnding} {f1 f2 : Int} {st2 : Bool} (ho : OutE (g : Int) (endsE ds s d g p a) es false f1) (hok : OkE vars s a g (endsE ds s d g p a)) (ho2 : OutE f1 (resE ds s d f1 q (a : Int)) es2 st2 f2) :
  OutE ((g : Int) + 1) (endsE ds s (d + 1) (g + 1) (.mk 15 t n lo hi [p, q]) a) (es ++ es2) st2 f2 := by
 rcases ho with ⟨l, t, g1, r1, r2, r3, r4⟩ | ⟨r1, r2, r3, r4, r5⟩
 ·
  subst r2 r4
  obtain ⟨h1, h2, h3⟩ := hok _ _ _ r1
  rw [resE_nat] at ho2
  rw [← r3] at r1
  rcases ho2 with ⟨l2, t2, g2, q1, q2, q3, q4⟩ | ⟨q1, q2, q3, q4, q5⟩
  ·
   subst q2 q3
   exact Or.inl ⟨_, _, g2, by rw [ends15_go r1, q1], rfl, rfl, q4⟩
  ·
   rw [if_pos (by omega)] at q4
   exact Or.inr ⟨by rw [ends15_go r1, q1], q2, by rw [List.length_append]; omega, by rw [if_pos (by omega)]; omega, fun h => by omega⟩
 ·
  rw [if_pos (by omega)] at r4
  have hr : resE ds s d f1 q (a : Int) = none := by unfold resE; rw [if_neg (by omega)]
  rcases ho2 with ⟨l2, t2, g2, q1, q2, q3, q4⟩ | ⟨q1, q2, q3, q4, q5⟩
  ·
   rw [hr] at q1; cases q1
  ·
   rw [if_neg (by omega)] at q4
   have := q5 (by omega)
   subst this
   exact Or.inr ⟨ends15_none r1, q2, by simp; omega, by rw [if_pos (by omega)]; omega, fun h => by omega⟩
theorem then_out {R : ResE} {ev : Nat → Nat → ResE} {above : Int} {os es es2 : List TEnding} {st st2 : Bool} {f1 f2 : Int} {N0 : Nat} (ho : OutE (g : Int) (endsE ds s d g p a) es st f1) (hf1 : f1 < g + 1) (hlen : es.length ≤ g + 130) (hN0 : (N0 : Int) ≤ g + 2) (hg3 : g ≤ 3000)
  (hR0 : endsE ds s d g p a = none → R = none) (hR1 : ∀ l t g1, endsE ds s d g p a = some (l, t, g1) → R = orE t (thenE ev above l g1 os))
  (ho2 : OutT N0 (-5000 * ((g : Int) + 1) - es.length) (if 0 ≤ f1 then thenE ev above es f1.toNat os else none) es2 st2 f2) : OutE ((g : Int) + 1) R es2 (st || st2) f2 := by
 have dead : R = none → f2 < 0 → es2.length ≤ N0 + 1 → -5000 * ((g : Int) + 1) - es.length ≤ f2 → OutE ((g : Int) + 1) R es2 (st || st2) f2 := fun a1 a2 a3 a4 => Or.inr ⟨a1, a2, by omega, by rw [if_pos (by omega)]; omega, fun h => by omega⟩
 rcases ho with ⟨l, t, g1, r1, r2, r3, r4⟩ | ⟨r1, r2, r3, r4, r5⟩
 ·
  subst r2 r3 r4
  rw [if_pos (by omega), Int.toNat_natCast] at ho2
  rcases ho2 with ⟨l2, t2, g2, q1, q2, q3, q4⟩ | ⟨q1, q2, q3, q4⟩
  ·
   subst q2 q3
   exact Or.inl ⟨_, _, g2, by rw [hR1 _ _ _ r1, q1]; rfl, rfl, rfl, q4⟩
  ·
   exact dead (by rw [hR1 _ _ _ r1, q1]; rfl) q2 q3 q4
 ·
  rw [if_neg (by omega)] at ho2
  rcases ho2 with ⟨l2, t2, g2, q1, q2, q3, q4⟩ | ⟨q1, q2, q3, q4⟩
  ·
   cases q1
  ·
   exact dead (hR0 r1) q2 q3 q4
end
end Go.Proofs.Ytdjbfneniohaaaa
namespace Go.Proofs.Ytdjbfneniohaaaa
set_option linter.unusedVariables false
set_option linter.unusedSimpArgs false
set_option maxRecDepth 100000
open Go.RowKit
set_option maxHeartbeats 4000000 in
theorem l19Ends_15 (w0 : World) (ds : List TPattern) (s : ByteArray) (M : Nat) (A : Option Addr) (c d : Nat) (t : ByteArray) (n lo hi : Int) (p q : TPattern) (hs : s.size ≤ 120) (hd : d ≤ 2999) (w : World) (vs : List Value) (S : Nat → Prop) (g a : Nat) (hq : Dat.HoldVals w0 S (TPattern.mk 15 t n lo hi [p, q]).D vs) (hb0 : Bel w0 w) (hM : w0.heap.size ≤ M) (hst : StE w M A ds.length c s ((g : Int) + 1)) (hg : g ≤ d) (ha : a ≤ s.size) (hds : ∀ q ∈ ds, q.vld ds.length = true) (IH : ∀ q, q.vld ds.length = true → SpecC w0 ds s M A c d q) (hv : (TPattern.mk 15 t n lo hi [p, q]).vld ds.length = true) :
  Calls Try.prog 32 #[.pointer (some ⟨M, 0, none⟩), .agg vs.toArray, .int .i64 a] w (EndsPost w M A ds.length c s ((g : Int) + 1) (endsE ds s (d + 1) (g + 1) (.mk 15 t n lo hi [p, q]) a)) := by
 obtain ⟨hvp, hvq⟩ := TPattern.vld2 hv
 obtain ⟨Aq, cq, rfl, gop, gt, gn, glo, ghi, gR⟩ := TPattern.vals hq
 have HQ := hide hq
 have HRQ := hide gR
 have HST := hide hst
 have HB0 := hide hb0
 obtain ⟨hM1, hMf, m0, m1, m2⟩ := hst
 have hqc := gR.1
 have hqm := gR.2.1
 simp only [List.length_map, List.length_cons, List.length_nil, Nat.reduceAdd] at hqc
 unfold maxLen at hqm gt
 clear hq gR hb0
 have hw0 : IntKind.i64.wrap ((g : Int) + 1 - 1) = (g : Int) := by rw [IntKind.wrap_i64]; omega
 have hg0 : decide ((g : Int) < 0) = false := by simp
 have hne : ¬ M = w.heap.size := by omega
 have hne2 : ¬ w.heap.size = M := by omega
 go_enter Try.func32, Try.ntmps32
 go_upto_region 5 with (fail)
 refine wp_namedJ fun wA hwA => ?_
 have k0 : wA.cell? ⟨w.heap.size, 0, none⟩ = some (.int .i64 15) := by rw [← hwA]; simp [go_sem]
 have k1 : wA.cell? ⟨w.heap.size, 1, none⟩ = some (.string t) := by rw [← hwA]; simp [go_sem]
 have k2 : wA.cell? ⟨w.heap.size, 2, none⟩ = some (.int .i64 n) := by rw [← hwA]; simp [go_sem]
 have k3 : wA.cell? ⟨w.heap.size, 3, none⟩ = some (.int .i64 lo) := by rw [← hwA]; simp [go_sem]
 have k4 : wA.cell? ⟨w.heap.size, 4, none⟩ = some (.int .i64 hi) := by rw [← hwA]; simp [go_sem]
 have k5 : wA.cell? ⟨w.heap.size, 5, none⟩ = some (.slice Aq 2 cq) := by rw [← hwA]; simp [go_sem]
 have hzA : wA.heap.size = w.heap.size + 2 := by rw [← hwA]; simp
 have hlA : w.heap.size < wA.heap.size := by omega
 have hMA : M < wA.heap.size := by omega
 have hnA : ¬ w.heap.size = wA.heap.size := by omega
 have hnM : ¬ M = wA.heap.size := by omega
 have HZA := hide hzA
 have HFA := hide (show OffS (fun b => b ≠ M) w wA by rw [← hwA]; exact osl)
 have HSA := hide (show StE wA M A ds.length c s (g : Int) by rw [← hwA]; exact StE.bel (StE.put HST.out _) bl)
 have HBA := hide (show Bel w0 wA from HFA.out.toBel HB0.out (fun x hx => by omega))
 have hInA : InI (a : Int) := by unfold InI; omega
 have HHA := hide (show OwnD wA 36 2 (.slice (some ⟨w.heap.size + 1, 0, none⟩) 1 1) [] [(TEnding.mk a []).D] by rw [← hwA]; have h := OwnD.lit1 (k := 2) ((w.setCell ⟨M, 2, none⟩ (.int .i64 g)).alloc (.cells #[.int .i64 15, .string t, .int .i64 n, .int .i64 lo, .int .i64 hi, .slice Aq 2 cq] 28)) 36 (TEnding.own_mk (x0 := (a : Int)) (x1 := []) hInA (OwnRow.nil _ 3 none 0 (by unfold maxLen; omega))) rfl List.nodup_nil; simpa using h)
 clear hwA hzA m0 m1 m2
 obtain ⟨-, hfA, m0, m1, m2⟩ := HSA.out
 obtain ⟨b1, o1, y1_0, y1_1, y1_2, y1_3, y1_4, y1_5, A1_5, C1_5, hA1, hS1, hl1, hx1, hv1, g1_0, g1_1, g1_2, g1_3, g1_4, g1_5, c1_0, c1_1, c1_2, c1_3, c1_4, c1_5⟩ := TPattern.at (l := [p, q]) HRQ.out 0 (by simp)
 subst hA1
 have HV1 := hide (show Dat.HoldVals w0 S p.D _ from hv1)
 clear hv1 hx1 hS1 g1_0 g1_1 g1_2 g1_3 g1_4 g1_5
 have hlb1 : b1 < wA.heap.size := Nat.lt_of_lt_of_le hl1 (Bel.size HBA.out)
 have hnb1 : ¬ b1 = w.heap.size := by have := Bel.size HB0.out; omega
 have hMb1 : b1 ≠ M := by omega
 replace c1_0 := (HBA.out.box b1 hl1 _).trans c1_0
 replace c1_1 := (HBA.out.box b1 hl1 _).trans c1_1
 replace c1_2 := (HBA.out.box b1 hl1 _).trans c1_2
 replace c1_3 := (HBA.out.box b1 hl1 _).trans c1_3
 replace c1_4 := (HBA.out.box b1 hl1 _).trans c1_4
 replace c1_5 := (HBA.out.box b1 hl1 _).trans c1_5
 simp only [Nat.zero_mul, Nat.one_mul, Nat.add_zero, Nat.reduceMul, Nat.add_assoc, Nat.reduceAdd] at c1_0 c1_1 c1_2 c1_3 c1_4 c1_5
 obtain ⟨b2, o2, y2_0, y2_1, y2_2, y2_3, y2_4, y2_5, A2_5, C2_5, hA2, hS2, hl2, hx2, hv2, g2_0, g2_1, g2_2, g2_3, g2_4, g2_5, c2_0, c2_1, c2_2, c2_3, c2_4, c2_5⟩ := TPattern.at (l := [p, q]) HRQ.out 1 (by simp)
 injection Option.some.inj hA2 with qb2 qo2 _
 subst qb2 qo2
 have HV2 := hide (show Dat.HoldVals w0 S q.D _ from hv2)
 clear hv2 hx2 hS2 g2_0 g2_1 g2_2 g2_3 g2_4 g2_5
 replace c2_0 := (HBA.out.box b1 hl2 _).trans c2_0
 replace c2_1 := (HBA.out.box b1 hl2 _).trans c2_1
 replace c2_2 := (HBA.out.box b1 hl2 _).trans c2_2
 replace c2_3 := (HBA.out.box b1 hl2 _).trans c2_3
 replace c2_4 := (HBA.out.box b1 hl2 _).trans c2_4
 replace c2_5 := (HBA.out.box b1 hl2 _).trans c2_5
 simp only [Nat.zero_mul, Nat.one_mul, Nat.add_zero, Nat.reduceMul, Nat.add_assoc, Nat.reduceAdd] at c2_0 c2_1 c2_2 c2_3 c2_4 c2_5
 obtain ⟨ie, hie, ze0, ze1, ze2⟩ := info_parts infoEnd
 obtain ⟨ic, hic, zc0, zc1, zc2⟩ := info_parts infoCap
 have HOK := hide (endsE_ok (s := s) hds d g p a hvp ha)
 go_upto_region 24 with (go_at_call 32; refine ((IH p hvp) _ _ S (g : Int) (a : Int) HV1.out HBA.out hM HSA.out (by omega) (by omega) (fun _ => by omega) hInA).mono ?_; rintro e w1 ⟨v1, L1, es1, st1, f1, rfl, hst1, hoff1, hO1, hB1, hC1, hout1⟩; obtain ⟨A1, cc1, hv1, hOD1, hR1⟩ := hO1.two; subst hv1; rw [List.length_map] at hOD1 hR1 hB1; have HOD1 := hide hOD1; have HB1 := hide hB1; have HC1 := hide hC1; have HOUT1 := hide hout1; have HST1 := hide hst1; have HOF1 := hide hoff1; have HRR1 := hide hR1; have hlR1 := hR1.1; have hcR1 := hR1.2.1; simp only [List.length_map] at hlR1; unfold maxLen at hcR1; rw [resE_nat] at hout1; have HOUT1 := hide hout1; have hx1 := hoff1.same w.heap.size hne2 hlA; have hzw1 := hoff1.size; have k1_0 := (hx1.1 0).trans k0; have k1_1 := (hx1.1 1).trans k1; have k1_2 := (hx1.1 2).trans k2; have k1_3 := (hx1.1 3).trans k3; have k1_4 := (hx1.1 4).trans k4; have k1_5 := (hx1.1 5).trans k5; obtain ⟨-, hfM1, m1_0, m1_1, m1_2⟩ := HST1.out; have hlw1 : w.heap.size < w1.heap.size := Nat.lt_of_lt_of_le hlA hzw1; have hMw1 : M < w1.heap.size := Nat.lt_of_lt_of_le hMA hzw1; have hnw1 : ¬ w.heap.size = w1.heap.size := (by omega); have hnMw1 : ¬ M = w1.heap.size := (by omega); have hxb := hoff1.same b1 hMb1 hlb1; have e2_0 := (hxb.1 _).trans c2_0; have e2_1 := (hxb.1 _).trans c2_1; have e2_2 := (hxb.1 _).trans c2_2; have e2_3 := (hxb.1 _).trans c2_3; have e2_4 := (hxb.1 _).trans c2_4; have e2_5 := (hxb.1 _).trans c2_5; have hlb1w : b1 < w1.heap.size := Nat.lt_of_lt_of_le hlb1 hzw1)
 cases st1
 case true => as_aux_lemma =>
  have HE := hide (or15_stop (t := t) (n := n) (lo := lo) (hi := hi) (q := q) HOUT1.out)
  go_wp2_with (fail)
  all_goals
   go_returns
   exact ⟨_, L1, es1, true, f1, rfl, StE.bel HST1.out bl, OffS.trans HFA.out (OffS.bel HOF1.out bl), OwnD.bel HOD1.out bl, fun b hb => by have := HB1.out b hb; omega, fun x hx => by have := HC1.out x hx; omega, HE.out⟩
 case false =>
 obtain ⟨ff1, ff2, ff3, ff4, -⟩ := OutE.facts HOUT1.out HOK.out
 have hbW1 : Bel w0 w1 := HOF1.out.toBel HBA.out (fun x hx => by omega)
 go_upto_region 27 with (go_at_call 32; refine ((IH q hvq) _ _ S f1 (a : Int) HV2.out hbW1 hM HST1.out (by omega) (by omega) (fun _ => by omega) hInA).mono ?_; rintro e w2 ⟨v2, L2, es2, st2, f2, rfl, hst2, hoff2, hO2, hB2, hC2, hout2⟩; obtain ⟨A2, cc2, hv2, hOD2, hR2⟩ := hO2.two; subst hv2; rw [List.length_map] at hOD2 hR2 hB2; have HOD2 := hide hOD2; have HB2 := hide hB2; have HC2 := hide hC2; have HOUT2 := hide hout2; have HST2 := hide hst2; have HOF2 := hide hoff2; have HRR2 := hide hR2; have hlR2 := hR2.1; have hcR2 := hR2.2.1; simp only [List.length_map] at hlR2; unfold maxLen at hcR2; have hzw2 := hoff2.size; have hlw2 : w.heap.size < w2.heap.size := (by omega); have hMw2 : M < w2.heap.size := (by omega))
 have fl2 := OutE.len2 (g := g) HOUT2.out (fun f' => endsE_ok (s := s) hds d f' q a hvq ha) (by omega)
 have HE := hide (or15_go (t := t) (n := n) (lo := lo) (hi := hi) HOUT1.out HOK.out HOUT2.out)
 have HOD1b := hide (OwnD.offS HOD1.out HOF2.out (fun b hb => by have := HB1.out b hb; omega))
 obtain ⟨nw1, hsr1⟩ := (OwnD.bel HOD1b.out (show Bel w2 (w2.alloc (.cells #[] 36)) from bl)).src
 have HSR1 := hide hsr1
 clear hsr1
 have hOz := hide (OwnD.lit0 w2 36 2)
 have hlt1 : ∀ b, b ∈ L1 → b < w1.heap.size := fun b hb => HOD1.out.lt b (Or.inr hb)
 have HLT1 := hide hlt1
 have hlt2 : ∀ b, Blk (.slice A2 es2.length cc2) L2 b → b < w2.heap.size := HOD2.out.lt
 have HLT2 := hide hlt2
 clear hlt1 hlt2
 go_wp2_with (at_builtin; refine wpList_append_D rfl (.tmp 152) (.tmp 153) 31 rfl 36 ie (.agg #[.int .i64 0, .slice none 0 0]) 2 32 Try.underlying31 hie ze0 ze1 ze2 (by decide) (by decide) hOz.out HSR1.out cc1 rfl rfl ?c1 ?c2 ?c3 ?_)
 case c1 => exact fun b hb hm => hb.elim (fun h => by have h1 := Option.some.inj (show some w2.heap.size = some b from h); have h2 := HLT1.out b hm; omega) (fun h => by cases h)
 case c2 => simp only [List.length_nil]; omega
 case c3 => simp only [List.length_nil]; unfold maxLen; omega
 intro v5 w5 hO5 hg5 hw5
 (try simp only [List.nil_append] at hO5)
 have HO5 := hide hO5
 have hb25 : Bel w2 w5 := Below.grown (show Bel w2 (w2.alloc (.cells #[] 36)) from bl) hg5 (by simp) (fun k hk => by have := Option.some.inj (show some w2.heap.size = some k from hk); omega)
 have hv5 : ∀ b, v5.ownBlock = some b → w2.heap.size ≤ b := fun b hb => (hw5 b hb).elim (fun h => by have := Option.some.inj (show some w2.heap.size = some b from h); omega) (fun h => by (try simp at h); omega)
 have HV5 := hide hv5
 clear hg5 hw5 hv5 hO5
 obtain ⟨nw2, hsr2⟩ := (OwnD.bel HOD2.out hb25).src
 have HSR2 := hide hsr2
 clear hsr2
 go_wp2_with (at_builtin; refine wpList_append_D rfl (.tmp 154) (.tmp 155) 31 rfl 36 ie (.agg #[.int .i64 0, .slice none 0 0]) 2 32 Try.underlying31 hie ze0 ze1 ze2 (by decide) (by decide) HO5.out HSR2.out cc2 rfl rfl ?c1 ?c2 ?c3 ?_)
 case c1 => exact fun b hb hm => hb.elim (fun h => by have h1 := HV5.out b h; have h2 := HLT2.out b (Or.inr hm); omega) (fun h => by have h1 := HLT1.out b h; have h2 := HB2.out b (Or.inr hm); omega)
 case c2 => rw [List.length_map]; omega
 case c3 => rw [List.length_map]; unfold maxLen; omega
 intro v6 w6 hO6 hg6 hw6
 have HO6 := hide (show OwnD w6 36 2 v6 (L1 ++ L2) ((es1 ++ es2).map TEnding.D) by rw [List.map_append]; exact hO6)
 have hb26 : Bel w2 w6 := Below.grown hb25 hg6 hb25.size (fun k hk => HV5.out k hk)
 have hv6 : ∀ b, v6.ownBlock = some b → w2.heap.size ≤ b := fun b hb => (hw6 b hb).elim (fun h => HV5.out b h) (fun h => Nat.le_trans hb25.size h)
 have HV6 := hide hv6
 clear hg6 hw6 hv6 hO6 hb25
 go_wp2_with (fail)
 all_goals
  go_returns
  exact ⟨_, L1 ++ L2, es1 ++ es2, st2, f2, rfl, StE.bel (StE.bel HST2.out hb26) bl, OffS.trans HFA.out (OffS.trans HOF1.out (OffS.bel (OffS.bel HOF2.out hb26) bl)), OwnD.bel HO6.out bl, fun b hb => hb.elim (fun h => by have := HV6.out b h; omega) (fun h => (List.mem_append.1 h).elim (fun h => by have := HB1.out b (Or.inr h); omega) (fun h => by have := HB2.out b (Or.inr h); omega)), fun x hx => (List.mem_append.1 hx).elim (fun h => by have := HC1.out x h; omega) (fun h => by have := HC2.out x h; omega), HE.out⟩
end Go.Proofs.Ytdjbfneniohaaaa
