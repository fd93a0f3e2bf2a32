/- The reference's evaluation: the short operations. -/
import Derived.Test.YtdjbfneniohaaaaJ3
import Derived.Deep.RegionHeld3
import Derived.Deep.Cut
import Derived.OwnWalk
namespace Go.Proofs.Ytdjbfneniohaaaa
set_option linter.unusedVariables false
set_option linter.unusedSimpArgs false
set_option maxRecDepth 100000
open Go.RowKit

set_option maxHeartbeats 4000000 in
theorem l19Ends_dead (w0 : World) (ds : List TPattern) (s : ByteArray) (M : Nat) (A : Option Addr) (c d : Nat) (q : TPattern) (w : World) (vs : List Value) (S : Nat → Prop) (f a : Int) (hq : Dat.HoldVals w0 S q.D vs) (hb0 : Bel w0 w) (hM : w0.heap.size ≤ M) (hst : StE w M A ds.length c s f) (hf : f ≤ 0) (hf2 : -1000000000 ≤ f) :
    Calls Try.prog 32 #[.pointer (some ⟨M, 0, none⟩), .agg vs.toArray, .int .i64 a] w (EndsPost w M A ds.length c s f (resE ds s d f q a)) := by
  obtain ⟨op, t, n, lo, hi, ks⟩ := q
  obtain ⟨Aq, cq, rfl, gop, gt, gn, glo, ghi, gR⟩ := TPattern.vals hq
  have HST := hide hst
  obtain ⟨hM1, hMf, m0, m1, m2⟩ := hst
  clear hq gR hb0
  have hw0 : IntKind.i64.wrap (f - 1) = f - 1 := by rw [IntKind.wrap_i64]; omega
  have hg0 : decide (f - 1 < 0) = true := by simp; omega
  have hne : ¬ M = w.heap.size := by omega
  have hne2 : ¬ w.heap.size = M := by omega
  have HE := hide (show resE ds s d f (.mk op t n lo hi ks) a = none by
    unfold resE
    split
    · rw [show f.toNat = 0 by omega]
      cases d <;> simp [endsE]
    · rfl)
  go_enter Try.func32, Try.ntmps32
  go_wp2_with (fail)
  all_goals
    go_returns
    rw [HE.out]
    exact ⟨_, [], [], false, f - 1, rfl, StE.bel (StE.put HST.out _) bl, osl, OwnD.nil _ _ _, fun b hb => hb.elim (fun h => by cases h) (fun h => by cases h), (fun x hx => by cases hx), Or.inr ⟨rfl, by omega, by simp; omega, by split <;> omega, fun _ => rfl⟩⟩
set_option maxHeartbeats 4000000 in
theorem l19Ends_18 (w0 : World) (ds : List TPattern) (s : ByteArray) (M : Nat) (A : Option Addr) (c d : Nat) (t : ByteArray) (n lo hi : Int) (ks : List TPattern) (hs : s.size ≤ 120) (hd : d ≤ 2999) (w : World) (vs : List Value) (S : Nat → Prop) (g a : Nat) (hq : Dat.HoldVals w0 S (TPattern.mk 18 t n lo hi ks).D vs) (hb0 : Bel w0 w) (hM : w0.heap.size ≤ M) (hst : StE w M A ds.length c s ((g : Int) + 1)) (hg : g ≤ d) (ha : a ≤ s.size) :
    Calls Try.prog 32 #[.pointer (some ⟨M, 0, none⟩), .agg vs.toArray, .int .i64 a] w (EndsPost w M A ds.length c s ((g : Int) + 1) (endsE ds s (d + 1) (g + 1) (.mk 18 t n lo hi ks) a)) := by
  obtain ⟨Aq, cq, rfl, gop, gt, gn, glo, ghi, gR⟩ := TPattern.vals hq
  have HQ := hide hq
  have HRQ := hide gR
  have HST := hide hst
  have HB0 := hide hb0
  obtain ⟨hM1, hMf, m0, m1, m2⟩ := hst
  have hqc := gR.1
  have hqm := gR.2.1
  simp only [List.length_map, List.length_cons, List.length_nil, Nat.reduceAdd] at hqc
  unfold maxLen at hqm gt
  clear hq gR hb0
  have hw0 : IntKind.i64.wrap ((g : Int) + 1 - 1) = (g : Int) := by rw [IntKind.wrap_i64]; omega
  have hg0 : decide ((g : Int) < 0) = false := by simp
  have hne : ¬ M = w.heap.size := by omega
  have hne2 : ¬ w.heap.size = M := by omega
  go_enter Try.func32, Try.ntmps32
  go_upto_region 5 with (fail)
  refine wp_namedJ fun wA hwA => ?_
  have k0 : wA.cell? ⟨w.heap.size, 0, none⟩ = some (.int .i64 18) := by rw [← hwA]; simp [go_sem]
  have k1 : wA.cell? ⟨w.heap.size, 1, none⟩ = some (.string t) := by rw [← hwA]; simp [go_sem]
  have k2 : wA.cell? ⟨w.heap.size, 2, none⟩ = some (.int .i64 n) := by rw [← hwA]; simp [go_sem]
  have k3 : wA.cell? ⟨w.heap.size, 3, none⟩ = some (.int .i64 lo) := by rw [← hwA]; simp [go_sem]
  have k4 : wA.cell? ⟨w.heap.size, 4, none⟩ = some (.int .i64 hi) := by rw [← hwA]; simp [go_sem]
  have k5 : wA.cell? ⟨w.heap.size, 5, none⟩ = some (.slice Aq ks.length cq) := by rw [← hwA]; simp [go_sem]
  have hzA : wA.heap.size = w.heap.size + 2 := by rw [← hwA]; simp
  have hlA : w.heap.size < wA.heap.size := by omega
  have hMA : M < wA.heap.size := by omega
  have hnA : ¬ w.heap.size = wA.heap.size := by omega
  have hnM : ¬ M = wA.heap.size := by omega
  have HZA := hide hzA
  have HFA := hide (show OffS (fun b => b ≠ M) w wA by rw [← hwA]; exact osl)
  have HSA := hide (show StE wA M A ds.length c s (g : Int) by rw [← hwA]; exact StE.bel (StE.put HST.out _) bl)
  have HBA := hide (show Bel w0 wA from HFA.out.toBel HB0.out (fun x hx => by omega))
  have hInA : InI (a : Int) := by unfold InI; omega
  have HHA := hide (show OwnD wA 36 2 (.slice (some ⟨w.heap.size + 1, 0, none⟩) 1 1) [] [(TEnding.mk a []).D] by rw [← hwA]; have h := OwnD.lit1 (k := 2) ((w.setCell ⟨M, 2, none⟩ (.int .i64 g)).alloc (.cells #[.int .i64 18, .string t, .int .i64 n, .int .i64 lo, .int .i64 hi, .slice Aq ks.length cq] 28)) 36 (TEnding.own_mk (x0 := (a : Int)) (x1 := []) hInA (OwnRow.nil _ 3 none 0 (by unfold maxLen; omega))) rfl List.nodup_nil; simpa using h)
  clear hwA hzA m0 m1 m2
  obtain ⟨-, hfA, m0, m1, m2⟩ := HSA.out
  have HE := hide (show endsE ds s (d + 1) (g + 1) (.mk 18 t n lo hi ks) a = some ([.mk a []], false, g) by unfold endsE; rw [if_neg (by decide), if_neg (by decide), if_neg (by decide), if_neg (by decide), if_neg (by decide), if_neg (by decide), if_pos (by decide)])
  go_wp2_with (fail)
  all_goals
    go_returns
    rw [HE.out]
    exact ⟨_, [], [.mk a []], false, g, rfl, StE.bel HSA.out bl, OffS.bel HFA.out bl, OwnD.bel HHA.out bl, fun b hb => hb.elim (fun h => by have := Option.some.inj (show some (w.heap.size + 1) = some b from h); omega) (fun h => by cases h), fun x hx => by rw [List.mem_singleton.1 hx]; simp only [TEnding.cs, List.length_nil]; omega, Or.inl ⟨_, _, g, rfl, rfl, rfl, rfl⟩⟩
set_option maxHeartbeats 4000000 in
theorem l19Ends_19 (w0 : World) (ds : List TPattern) (s : ByteArray) (M : Nat) (A : Option Addr) (c d : Nat) (t : ByteArray) (n lo hi : Int) (ks : List TPattern) (hs : s.size ≤ 120) (hd : d ≤ 2999) (w : World) (vs : List Value) (S : Nat → Prop) (g a : Nat) (hq : Dat.HoldVals w0 S (TPattern.mk 19 t n lo hi ks).D vs) (hb0 : Bel w0 w) (hM : w0.heap.size ≤ M) (hst : StE w M A ds.length c s ((g : Int) + 1)) (hg : g ≤ d) (ha : a ≤ s.size) :
    Calls Try.prog 32 #[.pointer (some ⟨M, 0, none⟩), .agg vs.toArray, .int .i64 a] w (EndsPost w M A ds.length c s ((g : Int) + 1) (endsE ds s (d + 1) (g + 1) (.mk 19 t n lo hi ks) a)) := by
  obtain ⟨Aq, cq, rfl, gop, gt, gn, glo, ghi, gR⟩ := TPattern.vals hq
  have HQ := hide hq
  have HRQ := hide gR
  have HST := hide hst
  have HB0 := hide hb0
  obtain ⟨hM1, hMf, m0, m1, m2⟩ := hst
  have hqc := gR.1
  have hqm := gR.2.1
  simp only [List.length_map, List.length_cons, List.length_nil, Nat.reduceAdd] at hqc
  unfold maxLen at hqm gt
  clear hq gR hb0
  have hw0 : IntKind.i64.wrap ((g : Int) + 1 - 1) = (g : Int) := by rw [IntKind.wrap_i64]; omega
  have hg0 : decide ((g : Int) < 0) = false := by simp
  have hne : ¬ M = w.heap.size := by omega
  have hne2 : ¬ w.heap.size = M := by omega
  go_enter Try.func32, Try.ntmps32
  go_upto_region 5 with (fail)
  refine wp_namedJ fun wA hwA => ?_
  have k0 : wA.cell? ⟨w.heap.size, 0, none⟩ = some (.int .i64 19) := by rw [← hwA]; simp [go_sem]
  have k1 : wA.cell? ⟨w.heap.size, 1, none⟩ = some (.string t) := by rw [← hwA]; simp [go_sem]
  have k2 : wA.cell? ⟨w.heap.size, 2, none⟩ = some (.int .i64 n) := by rw [← hwA]; simp [go_sem]
  have k3 : wA.cell? ⟨w.heap.size, 3, none⟩ = some (.int .i64 lo) := by rw [← hwA]; simp [go_sem]
  have k4 : wA.cell? ⟨w.heap.size, 4, none⟩ = some (.int .i64 hi) := by rw [← hwA]; simp [go_sem]
  have k5 : wA.cell? ⟨w.heap.size, 5, none⟩ = some (.slice Aq ks.length cq) := by rw [← hwA]; simp [go_sem]
  have hzA : wA.heap.size = w.heap.size + 2 := by rw [← hwA]; simp
  have hlA : w.heap.size < wA.heap.size := by omega
  have hMA : M < wA.heap.size := by omega
  have hnA : ¬ w.heap.size = wA.heap.size := by omega
  have hnM : ¬ M = wA.heap.size := by omega
  have HZA := hide hzA
  have HFA := hide (show OffS (fun b => b ≠ M) w wA by rw [← hwA]; exact osl)
  have HSA := hide (show StE wA M A ds.length c s (g : Int) by rw [← hwA]; exact StE.bel (StE.put HST.out _) bl)
  have HBA := hide (show Bel w0 wA from HFA.out.toBel HB0.out (fun x hx => by omega))
  have hInA : InI (a : Int) := by unfold InI; omega
  have HHA := hide (show OwnD wA 36 2 (.slice (some ⟨w.heap.size + 1, 0, none⟩) 1 1) [] [(TEnding.mk a []).D] by rw [← hwA]; have h := OwnD.lit1 (k := 2) ((w.setCell ⟨M, 2, none⟩ (.int .i64 g)).alloc (.cells #[.int .i64 19, .string t, .int .i64 n, .int .i64 lo, .int .i64 hi, .slice Aq ks.length cq] 28)) 36 (TEnding.own_mk (x0 := (a : Int)) (x1 := []) hInA (OwnRow.nil _ 3 none 0 (by unfold maxLen; omega))) rfl List.nodup_nil; simpa using h)
  clear hwA hzA m0 m1 m2
  obtain ⟨-, hfA, m0, m1, m2⟩ := HSA.out
  have HE := hide (show endsE ds s (d + 1) (g + 1) (.mk 19 t n lo hi ks) a = some ([.mk a []], true, g) by unfold endsE; rw [if_neg (by decide), if_neg (by decide), if_neg (by decide), if_neg (by decide), if_neg (by decide), if_neg (by decide), if_neg (by decide), if_pos (by decide)])
  go_wp2_with (fail)
  all_goals
    go_returns
    rw [HE.out]
    exact ⟨_, [], [.mk a []], true, g, rfl, StE.bel HSA.out bl, OffS.bel HFA.out bl, OwnD.bel HHA.out bl, fun b hb => hb.elim (fun h => by have := Option.some.inj (show some (w.heap.size + 1) = some b from h); omega) (fun h => by cases h), fun x hx => by rw [List.mem_singleton.1 hx]; simp only [TEnding.cs, List.length_nil]; omega, Or.inl ⟨_, _, g, rfl, rfl, rfl, rfl⟩⟩
set_option maxHeartbeats 4000000 in
theorem l19Ends_21 (w0 : World) (ds : List TPattern) (s : ByteArray) (M : Nat) (A : Option Addr) (c d : Nat) (t : ByteArray) (n lo hi : Int) (ks : List TPattern) (hs : s.size ≤ 120) (hd : d ≤ 2999) (w : World) (vs : List Value) (S : Nat → Prop) (g a : Nat) (hq : Dat.HoldVals w0 S (TPattern.mk 21 t n lo hi ks).D vs) (hb0 : Bel w0 w) (hM : w0.heap.size ≤ M) (hst : StE w M A ds.length c s ((g : Int) + 1)) (hg : g ≤ d) (ha : a ≤ s.size) :
    Calls Try.prog 32 #[.pointer (some ⟨M, 0, none⟩), .agg vs.toArray, .int .i64 a] w (EndsPost w M A ds.length c s ((g : Int) + 1) (endsE ds s (d + 1) (g + 1) (.mk 21 t n lo hi ks) a)) := by
  obtain ⟨Aq, cq, rfl, gop, gt, gn, glo, ghi, gR⟩ := TPattern.vals hq
  have HQ := hide hq
  have HRQ := hide gR
  have HST := hide hst
  have HB0 := hide hb0
  obtain ⟨hM1, hMf, m0, m1, m2⟩ := hst
  have hqc := gR.1
  have hqm := gR.2.1
  simp only [List.length_map, List.length_cons, List.length_nil, Nat.reduceAdd] at hqc
  unfold maxLen at hqm gt
  clear hq gR hb0
  have hw0 : IntKind.i64.wrap ((g : Int) + 1 - 1) = (g : Int) := by rw [IntKind.wrap_i64]; omega
  have hg0 : decide ((g : Int) < 0) = false := by simp
  have hne : ¬ M = w.heap.size := by omega
  have hne2 : ¬ w.heap.size = M := by omega
  go_enter Try.func32, Try.ntmps32
  go_upto_region 5 with (fail)
  refine wp_namedJ fun wA hwA => ?_
  have k0 : wA.cell? ⟨w.heap.size, 0, none⟩ = some (.int .i64 21) := by rw [← hwA]; simp [go_sem]
  have k1 : wA.cell? ⟨w.heap.size, 1, none⟩ = some (.string t) := by rw [← hwA]; simp [go_sem]
  have k2 : wA.cell? ⟨w.heap.size, 2, none⟩ = some (.int .i64 n) := by rw [← hwA]; simp [go_sem]
  have k3 : wA.cell? ⟨w.heap.size, 3, none⟩ = some (.int .i64 lo) := by rw [← hwA]; simp [go_sem]
  have k4 : wA.cell? ⟨w.heap.size, 4, none⟩ = some (.int .i64 hi) := by rw [← hwA]; simp [go_sem]
  have k5 : wA.cell? ⟨w.heap.size, 5, none⟩ = some (.slice Aq ks.length cq) := by rw [← hwA]; simp [go_sem]
  have hzA : wA.heap.size = w.heap.size + 2 := by rw [← hwA]; simp
  have hlA : w.heap.size < wA.heap.size := by omega
  have hMA : M < wA.heap.size := by omega
  have hnA : ¬ w.heap.size = wA.heap.size := by omega
  have hnM : ¬ M = wA.heap.size := by omega
  have HZA := hide hzA
  have HFA := hide (show OffS (fun b => b ≠ M) w wA by rw [← hwA]; exact osl)
  have HSA := hide (show StE wA M A ds.length c s (g : Int) by rw [← hwA]; exact StE.bel (StE.put HST.out _) bl)
  have HBA := hide (show Bel w0 wA from HFA.out.toBel HB0.out (fun x hx => by omega))
  have hInA : InI (a : Int) := by unfold InI; omega
  have HHA := hide (show OwnD wA 36 2 (.slice (some ⟨w.heap.size + 1, 0, none⟩) 1 1) [] [(TEnding.mk a []).D] by rw [← hwA]; have h := OwnD.lit1 (k := 2) ((w.setCell ⟨M, 2, none⟩ (.int .i64 g)).alloc (.cells #[.int .i64 21, .string t, .int .i64 n, .int .i64 lo, .int .i64 hi, .slice Aq ks.length cq] 28)) 36 (TEnding.own_mk (x0 := (a : Int)) (x1 := []) hInA (OwnRow.nil _ 3 none 0 (by unfold maxLen; omega))) rfl List.nodup_nil; simpa using h)
  clear hwA hzA m0 m1 m2
  obtain ⟨-, hfA, m0, m1, m2⟩ := HSA.out
  have HE := hide (show endsE ds s (d + 1) (g + 1) (.mk 21 t n lo hi ks) a = some ([], true, g) by unfold endsE; rw [if_neg (by decide), if_neg (by decide), if_neg (by decide), if_neg (by decide), if_neg (by decide), if_neg (by decide), if_neg (by decide), if_neg (by decide), if_neg (by decide), if_pos (by decide)])
  go_wp2_with (fail)
  all_goals
    go_returns
    rw [HE.out]
    exact ⟨_, [], [], true, g, rfl, StE.bel HSA.out bl, OffS.bel HFA.out bl, OwnD.nil _ _ _, fun b hb => hb.elim (fun h => by cases h) (fun h => by cases h), (fun x hx => by cases hx), Or.inl ⟨_, _, g, rfl, rfl, rfl, rfl⟩⟩
end Go.Proofs.Ytdjbfneniohaaaa
