/- The reference's evaluation: the other operations. -/
import Derived.Test.YtdjbfneniohaaaaJ5
import Derived.Deep.RegionHeld3
import Derived.Deep.Cut
import Derived.OwnWalk
namespace Go.Proofs.Ytdjbfneniohaaaa
set_option linter.unusedVariables false
set_option linter.unusedSimpArgs false
set_option maxRecDepth 100000
open Go.RowKit

set_option maxHeartbeats 4000000 in
theorem l19Ends_15 (w0 : World) (ds : List TPattern) (s : ByteArray) (M : Nat) (A : Option Addr) (c d : Nat) (t : ByteArray) (n lo hi : Int) (p q : TPattern) (hs : s.size ≤ 120) (hd : d ≤ 2999) (w : World) (vs : List Value) (S : Nat → Prop) (g a : Nat) (hq : Dat.HoldVals w0 S (TPattern.mk 15 t n lo hi [p, q]).D vs) (hb0 : Bel w0 w) (hM : w0.heap.size ≤ M) (hst : StE w M A ds.length c s ((g : Int) + 1)) (hg : g ≤ d) (ha : a ≤ s.size) (hds : ∀ q ∈ ds, q.vld ds.length = true) (IH : ∀ q, q.vld ds.length = true → SpecC w0 ds s M A c d q) (hv : (TPattern.mk 15 t n lo hi [p, q]).vld ds.length = true) :
    Calls Try.prog 32 #[.pointer (some ⟨M, 0, none⟩), .agg vs.toArray, .int .i64 a] w (EndsPost w M A ds.length c s ((g : Int) + 1) (endsE ds s (d + 1) (g + 1) (.mk 15 t n lo hi [p, q]) a)) := by
  obtain ⟨hvp, hvq⟩ := TPattern.vld2 hv
  obtain ⟨Aq, cq, rfl, gop, gt, gn, glo, ghi, gR⟩ := TPattern.vals hq
  have HQ := hide hq
  have HRQ := hide gR
  have HST := hide hst
  have HB0 := hide hb0
  obtain ⟨hM1, hMf, m0, m1, m2⟩ := hst
  have hqc := gR.1
  have hqm := gR.2.1
  simp only [List.length_map, List.length_cons, List.length_nil, Nat.reduceAdd] at hqc
  unfold maxLen at hqm gt
  clear hq gR hb0
  have hw0 : IntKind.i64.wrap ((g : Int) + 1 - 1) = (g : Int) := by rw [IntKind.wrap_i64]; omega
  have hg0 : decide ((g : Int) < 0) = false := by simp
  have hne : ¬ M = w.heap.size := by omega
  have hne2 : ¬ w.heap.size = M := by omega
  go_enter Try.func32, Try.ntmps32
  go_upto_region 5 with (fail)
  refine wp_namedJ fun wA hwA => ?_
  have k0 : wA.cell? ⟨w.heap.size, 0, none⟩ = some (.int .i64 15) := by rw [← hwA]; simp [go_sem]
  have k1 : wA.cell? ⟨w.heap.size, 1, none⟩ = some (.string t) := by rw [← hwA]; simp [go_sem]
  have k2 : wA.cell? ⟨w.heap.size, 2, none⟩ = some (.int .i64 n) := by rw [← hwA]; simp [go_sem]
  have k3 : wA.cell? ⟨w.heap.size, 3, none⟩ = some (.int .i64 lo) := by rw [← hwA]; simp [go_sem]
  have k4 : wA.cell? ⟨w.heap.size, 4, none⟩ = some (.int .i64 hi) := by rw [← hwA]; simp [go_sem]
  have k5 : wA.cell? ⟨w.heap.size, 5, none⟩ = some (.slice Aq 2 cq) := by rw [← hwA]; simp [go_sem]
  have hzA : wA.heap.size = w.heap.size + 2 := by rw [← hwA]; simp
  have hlA : w.heap.size < wA.heap.size := by omega
  have hMA : M < wA.heap.size := by omega
  have hnA : ¬ w.heap.size = wA.heap.size := by omega
  have hnM : ¬ M = wA.heap.size := by omega
  have HZA := hide hzA
  have HFA := hide (show OffS (fun b => b ≠ M) w wA by rw [← hwA]; exact osl)
  have HSA := hide (show StE wA M A ds.length c s (g : Int) by rw [← hwA]; exact StE.bel (StE.put HST.out _) bl)
  have HBA := hide (show Bel w0 wA from HFA.out.toBel HB0.out (fun x hx => by omega))
  have hInA : InI (a : Int) := by unfold InI; omega
  have HHA := hide (show OwnD wA 36 2 (.slice (some ⟨w.heap.size + 1, 0, none⟩) 1 1) [] [(TEnding.mk a []).D] by rw [← hwA]; have h := OwnD.lit1 (k := 2) ((w.setCell ⟨M, 2, none⟩ (.int .i64 g)).alloc (.cells #[.int .i64 15, .string t, .int .i64 n, .int .i64 lo, .int .i64 hi, .slice Aq 2 cq] 28)) 36 (TEnding.own_mk (x0 := (a : Int)) (x1 := []) hInA (OwnRow.nil _ 3 none 0 (by unfold maxLen; omega))) rfl List.nodup_nil; simpa using h)
  clear hwA hzA m0 m1 m2
  obtain ⟨-, hfA, m0, m1, m2⟩ := HSA.out
  obtain ⟨b1, o1, y1_0, y1_1, y1_2, y1_3, y1_4, y1_5, A1_5, C1_5, hA1, hS1, hl1, hx1, hv1, g1_0, g1_1, g1_2, g1_3, g1_4, g1_5, c1_0, c1_1, c1_2, c1_3, c1_4, c1_5⟩ := TPattern.at (l := [p, q]) HRQ.out 0 (by simp)
  subst hA1
  have HV1 := hide (show Dat.HoldVals w0 S p.D _ from hv1)
  clear hv1 hx1 hS1 g1_0 g1_1 g1_2 g1_3 g1_4 g1_5
  have hlb1 : b1 < wA.heap.size := Nat.lt_of_lt_of_le hl1 (Bel.size HBA.out)
  have hnb1 : ¬ b1 = w.heap.size := by have := Bel.size HB0.out; omega
  have hMb1 : b1 ≠ M := by omega
  replace c1_0 := (HBA.out.box b1 hl1 _).trans c1_0
  replace c1_1 := (HBA.out.box b1 hl1 _).trans c1_1
  replace c1_2 := (HBA.out.box b1 hl1 _).trans c1_2
  replace c1_3 := (HBA.out.box b1 hl1 _).trans c1_3
  replace c1_4 := (HBA.out.box b1 hl1 _).trans c1_4
  replace c1_5 := (HBA.out.box b1 hl1 _).trans c1_5
  simp only [Nat.zero_mul, Nat.one_mul, Nat.add_zero, Nat.reduceMul, Nat.add_assoc, Nat.reduceAdd] at c1_0 c1_1 c1_2 c1_3 c1_4 c1_5
  obtain ⟨b2, o2, y2_0, y2_1, y2_2, y2_3, y2_4, y2_5, A2_5, C2_5, hA2, hS2, hl2, hx2, hv2, g2_0, g2_1, g2_2, g2_3, g2_4, g2_5, c2_0, c2_1, c2_2, c2_3, c2_4, c2_5⟩ := TPattern.at (l := [p, q]) HRQ.out 1 (by simp)
  injection Option.some.inj hA2 with qb2 qo2 _
  subst qb2 qo2
  have HV2 := hide (show Dat.HoldVals w0 S q.D _ from hv2)
  clear hv2 hx2 hS2 g2_0 g2_1 g2_2 g2_3 g2_4 g2_5
  replace c2_0 := (HBA.out.box b1 hl2 _).trans c2_0
  replace c2_1 := (HBA.out.box b1 hl2 _).trans c2_1
  replace c2_2 := (HBA.out.box b1 hl2 _).trans c2_2
  replace c2_3 := (HBA.out.box b1 hl2 _).trans c2_3
  replace c2_4 := (HBA.out.box b1 hl2 _).trans c2_4
  replace c2_5 := (HBA.out.box b1 hl2 _).trans c2_5
  simp only [Nat.zero_mul, Nat.one_mul, Nat.add_zero, Nat.reduceMul, Nat.add_assoc, Nat.reduceAdd] at c2_0 c2_1 c2_2 c2_3 c2_4 c2_5
  obtain ⟨ie, hie, ze0, ze1, ze2⟩ := info_parts infoEnd
  obtain ⟨ic, hic, zc0, zc1, zc2⟩ := info_parts infoCap
  have HOK := hide (endsE_ok (s := s) hds d g p a hvp ha)
  go_upto_region 24 with (go_at_call 32; refine ((IH p hvp) _ _ S (g : Int) (a : Int) HV1.out HBA.out hM HSA.out (by omega) (by omega) (fun _ => by omega) hInA).mono ?_; rintro e w1 ⟨v1, L1, es1, st1, f1, rfl, hst1, hoff1, hO1, hB1, hC1, hout1⟩; obtain ⟨A1, cc1, hv1, hOD1, hR1⟩ := hO1.two; subst hv1; rw [List.length_map] at hOD1 hR1 hB1; have HOD1 := hide hOD1; have HB1 := hide hB1; have HC1 := hide hC1; have HOUT1 := hide hout1; have HST1 := hide hst1; have HOF1 := hide hoff1; have HRR1 := hide hR1; have hlR1 := hR1.1; have hcR1 := hR1.2.1; simp only [List.length_map] at hlR1; unfold maxLen at hcR1; rw [resE_nat] at hout1; have HOUT1 := hide hout1; have hx1 := hoff1.same w.heap.size hne2 hlA; have hzw1 := hoff1.size; have k1_0 := (hx1.1 0).trans k0; have k1_1 := (hx1.1 1).trans k1; have k1_2 := (hx1.1 2).trans k2; have k1_3 := (hx1.1 3).trans k3; have k1_4 := (hx1.1 4).trans k4; have k1_5 := (hx1.1 5).trans k5; obtain ⟨-, hfM1, m1_0, m1_1, m1_2⟩ := HST1.out; have hlw1 : w.heap.size < w1.heap.size := Nat.lt_of_lt_of_le hlA hzw1; have hMw1 : M < w1.heap.size := Nat.lt_of_lt_of_le hMA hzw1; have hnw1 : ¬ w.heap.size = w1.heap.size := (by omega); have hnMw1 : ¬ M = w1.heap.size := (by omega); have hxb := hoff1.same b1 hMb1 hlb1; have e2_0 := (hxb.1 _).trans c2_0; have e2_1 := (hxb.1 _).trans c2_1; have e2_2 := (hxb.1 _).trans c2_2; have e2_3 := (hxb.1 _).trans c2_3; have e2_4 := (hxb.1 _).trans c2_4; have e2_5 := (hxb.1 _).trans c2_5; have hlb1w : b1 < w1.heap.size := Nat.lt_of_lt_of_le hlb1 hzw1)
  cases st1
  case true => as_aux_lemma =>
    have HE := hide (or15_stop (t := t) (n := n) (lo := lo) (hi := hi) (q := q) HOUT1.out)
    go_wp2_with (fail)
    all_goals
      go_returns
      exact ⟨_, L1, es1, true, f1, rfl, StE.bel HST1.out bl, OffS.trans HFA.out (OffS.bel HOF1.out bl), OwnD.bel HOD1.out bl, fun b hb => by have := HB1.out b hb; omega, fun x hx => by have := HC1.out x hx; omega, HE.out⟩
  case false =>
  obtain ⟨ff1, ff2, ff3, ff4, -⟩ := OutE.facts HOUT1.out HOK.out
  have hbW1 : Bel w0 w1 := HOF1.out.toBel HBA.out (fun x hx => by omega)
  go_upto_region 27 with (go_at_call 32; refine ((IH q hvq) _ _ S f1 (a : Int) HV2.out hbW1 hM HST1.out (by omega) (by omega) (fun _ => by omega) hInA).mono ?_; rintro e w2 ⟨v2, L2, es2, st2, f2, rfl, hst2, hoff2, hO2, hB2, hC2, hout2⟩; obtain ⟨A2, cc2, hv2, hOD2, hR2⟩ := hO2.two; subst hv2; rw [List.length_map] at hOD2 hR2 hB2; have HOD2 := hide hOD2; have HB2 := hide hB2; have HC2 := hide hC2; have HOUT2 := hide hout2; have HST2 := hide hst2; have HOF2 := hide hoff2; have HRR2 := hide hR2; have hlR2 := hR2.1; have hcR2 := hR2.2.1; simp only [List.length_map] at hlR2; unfold maxLen at hcR2; have hzw2 := hoff2.size; have hlw2 : w.heap.size < w2.heap.size := (by omega); have hMw2 : M < w2.heap.size := (by omega))
  have fl2 := OutE.len2 (g := g) HOUT2.out (fun f' => endsE_ok (s := s) hds d f' q a hvq ha) (by omega)
  have HE := hide (or15_go (t := t) (n := n) (lo := lo) (hi := hi) HOUT1.out HOK.out HOUT2.out)
  have HOD1b := hide (OwnD.offS HOD1.out HOF2.out (fun b hb => by have := HB1.out b hb; omega))
  obtain ⟨nw1, hsr1⟩ := (OwnD.bel HOD1b.out (show Bel w2 (w2.alloc (.cells #[] 36)) from bl)).src
  have HSR1 := hide hsr1
  clear hsr1
  have hOz := hide (OwnD.lit0 w2 36 2)
  have hlt1 : ∀ b, b ∈ L1 → b < w1.heap.size := fun b hb => HOD1.out.lt b (Or.inr hb)
  have HLT1 := hide hlt1
  have hlt2 : ∀ b, Blk (.slice A2 es2.length cc2) L2 b → b < w2.heap.size := HOD2.out.lt
  have HLT2 := hide hlt2
  clear hlt1 hlt2
  go_wp2_with (at_builtin; refine wpList_append_D rfl (.tmp 152) (.tmp 153) 31 rfl 36 ie (.agg #[.int .i64 0, .slice none 0 0]) 2 32 Try.underlying31 hie ze0 ze1 ze2 (by decide) (by decide) hOz.out HSR1.out cc1 rfl rfl ?c1 ?c2 ?c3 ?_)
  case c1 => exact fun b hb hm => hb.elim (fun h => by have h1 := Option.some.inj (show some w2.heap.size = some b from h); have h2 := HLT1.out b hm; omega) (fun h => by cases h)
  case c2 => simp only [List.length_nil]; omega
  case c3 => simp only [List.length_nil]; unfold maxLen; omega
  intro v5 w5 hO5 hg5 hw5
  (try simp only [List.nil_append] at hO5)
  have HO5 := hide hO5
  have hb25 : Bel w2 w5 := Below.grown (show Bel w2 (w2.alloc (.cells #[] 36)) from bl) hg5 (by simp) (fun k hk => by have := Option.some.inj (show some w2.heap.size = some k from hk); omega)
  have hv5 : ∀ b, v5.ownBlock = some b → w2.heap.size ≤ b := fun b hb => (hw5 b hb).elim (fun h => by have := Option.some.inj (show some w2.heap.size = some b from h); omega) (fun h => by (try simp at h); omega)
  have HV5 := hide hv5
  clear hg5 hw5 hv5 hO5
  obtain ⟨nw2, hsr2⟩ := (OwnD.bel HOD2.out hb25).src
  have HSR2 := hide hsr2
  clear hsr2
  go_wp2_with (at_builtin; refine wpList_append_D rfl (.tmp 154) (.tmp 155) 31 rfl 36 ie (.agg #[.int .i64 0, .slice none 0 0]) 2 32 Try.underlying31 hie ze0 ze1 ze2 (by decide) (by decide) HO5.out HSR2.out cc2 rfl rfl ?c1 ?c2 ?c3 ?_)
  case c1 => exact fun b hb hm => hb.elim (fun h => by have h1 := HV5.out b h; have h2 := HLT2.out b (Or.inr hm); omega) (fun h => by have h1 := HLT1.out b h; have h2 := HB2.out b (Or.inr hm); omega)
  case c2 => rw [List.length_map]; omega
  case c3 => rw [List.length_map]; unfold maxLen; omega
  intro v6 w6 hO6 hg6 hw6
  have HO6 := hide (show OwnD w6 36 2 v6 (L1 ++ L2) ((es1 ++ es2).map TEnding.D) by rw [List.map_append]; exact hO6)
  have hb26 : Bel w2 w6 := Below.grown hb25 hg6 hb25.size (fun k hk => HV5.out k hk)
  have hv6 : ∀ b, v6.ownBlock = some b → w2.heap.size ≤ b := fun b hb => (hw6 b hb).elim (fun h => HV5.out b h) (fun h => Nat.le_trans hb25.size h)
  have HV6 := hide hv6
  clear hg6 hw6 hv6 hO6 hb25
  go_wp2_with (fail)
  all_goals
    go_returns
    exact ⟨_, L1 ++ L2, es1 ++ es2, st2, f2, rfl, StE.bel (StE.bel HST2.out hb26) bl, OffS.trans HFA.out (OffS.trans HOF1.out (OffS.bel (OffS.bel HOF2.out hb26) bl)), OwnD.bel HO6.out bl, fun b hb => hb.elim (fun h => by have := HV6.out b h; omega) (fun h => (List.mem_append.1 h).elim (fun h => by have := HB1.out b (Or.inr h); omega) (fun h => by have := HB2.out b (Or.inr h); omega)), fun x hx => (List.mem_append.1 hx).elim (fun h => by have := HC1.out x h; omega) (fun h => by have := HC2.out x h; omega), HE.out⟩
end Go.Proofs.Ytdjbfneniohaaaa
