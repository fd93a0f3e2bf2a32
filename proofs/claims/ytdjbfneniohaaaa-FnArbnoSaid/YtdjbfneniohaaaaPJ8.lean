/- The reference's evaluation: operations that make a list. -/
import Derived.Test.YtdjbfneniohaaaaPJ7
import Derived.Deep.RegionHeld3
import Derived.Deep.Cut
import Derived.OwnWalk
namespace Go.Proofs.Ytdjbfneniohaaaa
set_option linter.unusedVariables false
set_option linter.unusedSimpArgs false
set_option maxRecDepth 100000
open Go.RowKit
set_option maxHeartbeats 4000000 in
theorem l19Ends_16 (w0 : World) (ds : List TPattern) (s : ByteArray) (M : Nat) (A : Option Addr) (c d : Nat) (t : ByteArray) (n lo hi : Int) (p : TPattern) (hs : s.size ≤ 120) (hd : d ≤ 2999) (w : World) (vs : List Value) (S : Nat → Prop) (g a : Nat) (hq : Dat.HoldVals w0 S (TPattern.mk 16 t n lo hi [p]).D vs) (hb0 : Bel w0 w) (hM : w0.heap.size ≤ M) (hst : StE w M A ds.length c s ((g : Int) + 1)) (hg : g ≤ d) (ha : a ≤ s.size) (hds : ∀ q ∈ ds, q.vld ds.length = true) (IH : ∀ q, q.vld ds.length = true → SpecC w0 ds s M A c d q) (hv : (TPattern.mk 16 t n lo hi [p]).vld ds.length = true) :
  Calls Try.prog 32 #[.pointer (some ⟨M, 0, none⟩), .agg vs.toArray, .int .i64 a] w (EndsPost w M A ds.length c s ((g : Int) + 1) (endsE ds s (d + 1) (g + 1) (.mk 16 t n lo hi [p]) a)) := by
 obtain ⟨p', hpe, hvp⟩ := TPattern.kids1 hv rfl
 obtain rfl : p = p' := by simpa using hpe
 clear hpe
 obtain ⟨Aq, cq, rfl, gop, gt, gn, glo, ghi, gR⟩ := TPattern.vals hq
 have HQ := hide hq
 have HRQ := hide gR
 have HST := hide hst
 have HB0 := hide hb0
 obtain ⟨hM1, hMf, m0, m1, m2⟩ := hst
 have hqc := gR.1
 have hqm := gR.2.1
 simp only [List.length_map, List.length_cons, List.length_nil, Nat.reduceAdd] at hqc
 unfold maxLen at hqm gt
 clear hq gR hb0
 have hw0 : IntKind.i64.wrap ((g : Int) + 1 - 1) = (g : Int) := by rw [IntKind.wrap_i64]; omega
 have hg0 : decide ((g : Int) < 0) = false := by simp
 have hne : ¬ M = w.heap.size := by omega
 have hne2 : ¬ w.heap.size = M := by omega
 go_enter Try.func32, Try.ntmps32
 go_upto_region 5 with (fail)
 refine wp_namedJ fun wA hwA => ?_
 have k0 : wA.cell? ⟨w.heap.size, 0, none⟩ = some (.int .i64 16) := by rw [← hwA]; simp [go_sem]
 have k1 : wA.cell? ⟨w.heap.size, 1, none⟩ = some (.string t) := by rw [← hwA]; simp [go_sem]
 have k2 : wA.cell? ⟨w.heap.size, 2, none⟩ = some (.int .i64 n) := by rw [← hwA]; simp [go_sem]
 have k3 : wA.cell? ⟨w.heap.size, 3, none⟩ = some (.int .i64 lo) := by rw [← hwA]; simp [go_sem]
 have k4 : wA.cell? ⟨w.heap.size, 4, none⟩ = some (.int .i64 hi) := by rw [← hwA]; simp [go_sem]
 have k5 : wA.cell? ⟨w.heap.size, 5, none⟩ = some (.slice Aq 1 cq) := by rw [← hwA]; simp [go_sem]
 have hzA : wA.heap.size = w.heap.size + 2 := by rw [← hwA]; simp
 have hlA : w.heap.size < wA.heap.size := by omega
 have hMA : M < wA.heap.size := by omega
 have hnA : ¬ w.heap.size = wA.heap.size := by omega
 have hnM : ¬ M = wA.heap.size := by omega
 have HZA := hide hzA
 have HFA := hide (show OffS (fun b => b ≠ M) w wA by rw [← hwA]; exact osl)
 have HSA := hide (show StE wA M A ds.length c s (g : Int) by rw [← hwA]; exact StE.bel (StE.put HST.out _) bl)
 have HBA := hide (show Bel w0 wA from HFA.out.toBel HB0.out (fun x hx => by omega))
 have hInA : InI (a : Int) := by unfold InI; omega
 have HHA := hide (show OwnD wA 36 2 (.slice (some ⟨w.heap.size + 1, 0, none⟩) 1 1) [] [(TEnding.mk a []).D] by rw [← hwA]; have h := OwnD.lit1 (k := 2) ((w.setCell ⟨M, 2, none⟩ (.int .i64 g)).alloc (.cells #[.int .i64 16, .string t, .int .i64 n, .int .i64 lo, .int .i64 hi, .slice Aq 1 cq] 28)) 36 (TEnding.own_mk (x0 := (a : Int)) (x1 := []) hInA (OwnRow.nil _ 3 none 0 (by unfold maxLen; omega))) rfl List.nodup_nil; simpa using h)
 clear hwA hzA m0 m1 m2
 obtain ⟨-, hfA, m0, m1, m2⟩ := HSA.out
 obtain ⟨b1, o1, y1_0, y1_1, y1_2, y1_3, y1_4, y1_5, A1_5, C1_5, hA1, hS1, hl1, hx1, hv1, g1_0, g1_1, g1_2, g1_3, g1_4, g1_5, c1_0, c1_1, c1_2, c1_3, c1_4, c1_5⟩ := TPattern.at (l := [p]) HRQ.out 0 (by simp)
 subst hA1
 have HV1 := hide (show Dat.HoldVals w0 S p.D _ from hv1)
 clear hv1 hx1 hS1 g1_0 g1_1 g1_2 g1_3 g1_4 g1_5
 have hlb1 : b1 < wA.heap.size := Nat.lt_of_lt_of_le hl1 (Bel.size HBA.out)
 have hnb1 : ¬ b1 = w.heap.size := by have := Bel.size HB0.out; omega
 have hMb1 : b1 ≠ M := by omega
 replace c1_0 := (HBA.out.box b1 hl1 _).trans c1_0
 replace c1_1 := (HBA.out.box b1 hl1 _).trans c1_1
 replace c1_2 := (HBA.out.box b1 hl1 _).trans c1_2
 replace c1_3 := (HBA.out.box b1 hl1 _).trans c1_3
 replace c1_4 := (HBA.out.box b1 hl1 _).trans c1_4
 replace c1_5 := (HBA.out.box b1 hl1 _).trans c1_5
 simp only [Nat.zero_mul, Nat.one_mul, Nat.add_zero, Nat.reduceMul, Nat.add_assoc, Nat.reduceAdd] at c1_0 c1_1 c1_2 c1_3 c1_4 c1_5
 obtain ⟨ie, hie, ze0, ze1, ze2⟩ := info_parts infoEnd
 obtain ⟨ic, hic, zc0, zc1, zc2⟩ := info_parts infoCap
 have HOK := hide (endsE_ok (s := s) hds d g p a hvp ha)
 go_upto_region 31 with (go_at_call 32; refine ((IH p hvp) _ _ S (g : Int) (a : Int) HV1.out HBA.out hM HSA.out (by omega) (by omega) (fun _ => by omega) hInA).mono ?_; rintro e w1 ⟨v1, L1, es1, st1, f1, rfl, hst1, hoff1, hO1, hB1, hC1, hout1⟩; obtain ⟨A1, cc1, hv1, hOD1, hR1⟩ := hO1.two; subst hv1; rw [List.length_map] at hOD1 hR1 hB1; have HOD1 := hide hOD1; have HB1 := hide hB1; have HC1 := hide hC1; have HOUT1 := hide hout1; have HST1 := hide hst1; have HOF1 := hide hoff1; have HRR1 := hide hR1; have hlR1 := hR1.1; have hcR1 := hR1.2.1; simp only [List.length_map] at hlR1; unfold maxLen at hcR1; rw [resE_nat] at hout1; have HOUT1 := hide hout1; have hx1 := hoff1.same w.heap.size hne2 hlA; have hzw1 := hoff1.size; have k1_0 := (hx1.1 0).trans k0; have k1_1 := (hx1.1 1).trans k1; have k1_2 := (hx1.1 2).trans k2; have k1_3 := (hx1.1 3).trans k3; have k1_4 := (hx1.1 4).trans k4; have k1_5 := (hx1.1 5).trans k5; obtain ⟨-, hfM1, m1_0, m1_1, m1_2⟩ := HST1.out; have hlw1 : w.heap.size < w1.heap.size := Nat.lt_of_lt_of_le hlA hzw1; have hMw1 : M < w1.heap.size := Nat.lt_of_lt_of_le hMA hzw1; have hnw1 : ¬ w.heap.size = w1.heap.size := (by omega); have hnMw1 : ¬ M = w1.heap.size := (by omega))
 obtain ⟨ff1, ff2, ff3, ff4, -⟩ := OutE.facts HOUT1.out HOK.out
 go_wp2_with (fail)
 go_loopw [25, 26] (fun ov iv wr => ∃ (j : Nat) (L : List Nat), iv = .int .i64 j ∧ j ≤ es1.length ∧ Hid (OwnD wr 36 2 ov L (((es1.take j).map (putE n a)).map TEnding.D)) ∧ Hid (∀ b, Blk ov L b → w1.heap.size ≤ b) ∧ Bel w1 wr) (fun _ iv _ => es1.length - (intOf iv).toNat)
 case atStart => exact ⟨0, [], rfl, by omega, hide (by rw [List.take_zero]; exact OwnD.lit0 w1 _ 2), hide (fun b hb => hb.elim (fun h => by have := Option.some.inj (show some w1.heap.size = some b from h); omega) (fun h => by cases h)), bl⟩
 case round => as_aux_lemma =>
  obtain ⟨j, L3, rfl, hj, HO3, HB3, hbw⟩ := hrel
  obtain ⟨A3, c3, hov3, hOD3, -⟩ := HO3.out.two
  subst hov3
  have hlen3 : (((es1.take j).map (putE n a)).map TEnding.D).length = j := by simp; omega
  rw [hlen3] at hOD3 HB3
  rw [hlen3]
  clear HO3
  have HO3 := hide hOD3
  clear hOD3
  have hzr := hbw.size
  have hlr : w.heap.size < wr.heap.size := by omega
  have hnr : ¬ w.heap.size = wr.heap.size := by omega
  have r_0 := (hbw.box w.heap.size hlw1 _).trans k1_0
  have r_1 := (hbw.box w.heap.size hlw1 _).trans k1_1
  have r_2 := (hbw.box w.heap.size hlw1 _).trans k1_2
  have r_3 := (hbw.box w.heap.size hlw1 _).trans k1_3
  have r_4 := (hbw.box w.heap.size hlw1 _).trans k1_4
  have r_5 := (hbw.box w.heap.size hlw1 _).trans k1_5
  by_cases h1 : j < es1.length
  case neg => as_aux_lemma =>
   obtain rfl : j = es1.length := by omega
   have hd : decide ((es1.length : Int) < (es1.length : Int)) = false := by simp
   have hdn : decide (es1.length < es1.length) = false := by simp
   rw [List.take_length] at HO3
   have HE := hide (put_out (t := t) (n := n) (lo := lo) (hi := hi) HOUT1.out)
   go_wp2_with (fail)
   all_goals
    go_returns
    exact ⟨_, L3, _, st1, f1, rfl, StE.bel (StE.bel HST1.out hbw) bl, OffS.trans HFA.out (OffS.bel (OffS.bel HOF1.out hbw) bl), OwnD.bel HO3.out bl, fun b hb => by have := HB3.out b hb; omega, fun x hx => by obtain ⟨y, hy, rfl⟩ := List.mem_map.1 hx; have := HC1.out y hy; simp only [putE, TEnding.cs, List.length_append, List.length_cons, List.length_nil]; simp only [TEnding.cs] at this; omega, HE.out⟩
  case pos =>
  have hd : decide ((j : Int) < (es1.length : Int)) = true := by simp; omega
  have hdn : decide (j < es1.length) = true := by simp; omega
  have hj0 : 0 ≤ (j : Int) := by omega
  have hj1 : (j : Int) < (es1.length : Int) := by omega
  obtain ⟨b2, o2, x2_0, x2_1, A2_1, C2_1, hA2, hSb2, hlb2, hx2, hv2, g2_0, g2_1, c2_0, c2_1⟩ := TEnding.at HRR1.out j h1
  subst hA2
  have HX2 := hide hx2
  have GR2 := hide g2_1
  have hcs := HC1.out es1[j] (List.getElem_mem h1)
  rw [hx2] at hcs
  simp only [TEnding.cs] at hcs
  have hcl : x2_1.length ≤ 9000 := by omega
  clear hcs hx2 hv2 g2_1
  replace c2_0 := (hbw.box b2 hlb2 _).trans c2_0
  replace c2_1 := (hbw.box b2 hlb2 _).trans c2_1
  have hlb2r : b2 < wr.heap.size := by omega
  obtain ⟨nw1, hsr1⟩ := Row.src (capD_flat x2_1) (Row.bel (show Bel w1 (wr.alloc (.cells #[] 40)) from bl) GR2.out)
  rw [List.length_map] at hsr1
  have HSR1 := hide hsr1
  have HOz := hide (OwnD.lit0 wr 40 3)
  clear hsr1
  go_wp2_with (at_builtin; refine wpList_append_D rfl (.tmp 178) (.tmp 183) 34 rfl 40 ic (.agg #[.int .i64 0, .int .i64 0, .int .i64 0]) 3 24 Try.underlying34 hic zc0 zc1 zc2 (by decide) (by decide) HOz.out HSR1.out C2_1 rfl rfl ?c1 ?c2 ?c3 ?_)
  case c1 => exact fun b _ h => by cases h
  case c2 => simp only [List.length_nil]; omega
  case c3 => simp only [List.length_nil]; unfold maxLen; omega
  intro v5 w5 hO5 hg5 hw5
  have hbr5 : Bel wr w5 := Below.grown (show Bel wr (wr.alloc (.cells #[] 40)) from bl) hg5 (by simp) (fun k hk => by have := Option.some.inj (show some wr.heap.size = some k from hk); omega)
  have hv5 : ∀ b, v5.ownBlock = some b → wr.heap.size ≤ b := fun b hb => (hw5 b hb).elim (fun h => by have := Option.some.inj (show some wr.heap.size = some b from h); omega) (fun h => by (try simp at h); omega)
  have HV5 := hide hv5
  have HO5 := hide (show OwnD w5 40 3 v5 [] (x2_1.map TCapture.D) by simpa using hO5)
  clear hO5 hg5 hw5 hv5
  have hz5 := hbr5.size
  have s_0 := (hbr5.box w.heap.size hlr _).trans r_0
  have s_1 := (hbr5.box w.heap.size hlr _).trans r_1
  have s_2 := (hbr5.box w.heap.size hlr _).trans r_2
  have s_3 := (hbr5.box w.heap.size hlr _).trans r_3
  have s_4 := (hbr5.box w.heap.size hlr _).trans r_4
  have s_5 := (hbr5.box w.heap.size hlr _).trans r_5
  have d2_0 := (hbr5.box b2 hlb2r _).trans c2_0
  have hl5 : w.heap.size < w5.heap.size := by omega
  have hlb5 : b2 < w5.heap.size := by omega
  go_upto_region 37 with (fail)
  refine wp_region_held_drew (S := fun w' => w'.cell? ⟨w.heap.size, 2, none⟩ = some (.int .i64 n) ∧ w'.cell? ⟨b2, o2 + j * 2, none⟩ = some (.int .i64 x2_0)) (by kernel_rfl) ?_ (fun hHeld => ?_)
  ·
   exact ⟨s_2, d2_0⟩
  refine tkI 0 ?_
  refine tkI 1 ?_
  refine tkI 2 ?_
  refine tkI 3 ?_
  refine tkI 4 ?_
  refine tkI 5 ?_
  refine tkI 6 ?_
  refine tkI 7 ?_
  refine tkI 8 ?_
  refine tkI 9 ?_
  refine wpAnyH_ready (rs := [10]) (by kernel_rfl) (by simp) ?_
  refine AllReadyH.cons (o := _) rfl (fun K hK => ?_) AllReadyH.nil
  go_simp
  clear hHeld
  have hb5X : Bel w5 ((w5.alloc (.cells #[.int .i64 n, .int .i64 (a : Int), .int .i64 x2_0] 40)).drew) := bl
  have hOc := OwnD.bel (OwnD.lit1 (k := 3) w5 40 (TCapture.own_mk (x0 := n) (x1 := (a : Int)) (x2 := x2_0) gn hInA g2_0) rfl List.nodup_nil) (show Bel _ ((w5.alloc (.cells #[.int .i64 n, .int .i64 (a : Int), .int .i64 x2_0] 40)).drew) from bl)
  obtain ⟨nw2, hsr2⟩ := hOc.src
  refine hK.out _ _ ?_ (fun hHeld => ?_)
  ·
   exact ⟨(hb5X.box w.heap.size hl5 _).trans s_2, (hb5X.box b2 hlb5 _).trans d2_0⟩
  clear hK K
  (try simp only [Act.put, List.setIfInBounds_toArray, List.set_cons_zero, List.set_cons_succ, List.getElem_toArray, List.getElem_cons_zero, List.getElem_cons_succ])
  refine wpAnyH_ready (rs := [11]) (by kernel_rfl) (by simp) ?_
  refine AllReadyH.cons (o := _) rfl (fun K hK => ?_) AllReadyH.nil
  rw [if_pos (by rfl)]
  refine wp_append_D (.tmp 188) (.tmp 198) 34 rfl 40 ic (.agg #[.int .i64 0, .int .i64 0, .int .i64 0]) 3 24 Try.underlying34 hic zc0 zc1 zc2 (by decide) (by decide) (OwnD.bel HO5.out hb5X) hsr2 1 rfl rfl (fun b _ h => by cases h) (by rw [List.length_map]; omega) (by rw [List.length_map]; unfold maxLen; omega) fun v6 w6 hO6 hg6 hw6 => ?_
  have hbr6 : Bel wr w6 := Below.grown (Bel.trans hbr5 hb5X) hg6 (Bel.trans hbr5 hb5X).size (fun k hk => HV5.out k hk)
  have hv6 : ∀ b, v6.ownBlock = some b → wr.heap.size ≤ b := fun b hb => (hw6 b hb).elim (fun h => HV5.out b h) (fun h => by have := (Bel.trans hbr5 hb5X).size; omega)
  refine hK.out _ _ ?_ (fun hHeld => ?_)
  ·
   exact ⟨(hbr6.box w.heap.size hlr _).trans r_2, (hbr6.box b2 hlb2r _).trans c2_0⟩
  clear hK K
  (try simp only [Act.put, List.setIfInBounds_toArray, List.set_cons_zero, List.set_cons_succ, List.getElem_toArray, List.getElem_cons_zero, List.getElem_cons_succ])
  refine tkI 12 ?_
  refine wpAnyH_done (by kernel_rfl) ?_ _
  obtain ⟨xy, hxy⟩ : ∃ l, x2_1 ++ [TCapture.mk n a x2_0] = l := ⟨_, rfl⟩
  have HXY := hide hxy
  have hO7 : OwnD w6 40 3 v6 [] (xy.map TCapture.D) := by rw [← hxy, List.map_append]; exact hO6
  clear hHeld hO6 hg6 hw6 hOc hsr2 hxy
  obtain ⟨A6, c6, L6, hv6e, hr6, hn6, hk6⟩ := hO7.ownRow
  subst hv6e
  have HV6 := hide hv6
  have hk7 : ∀ b, b ∈ L6 → wr.heap.size ≤ b := fun b hb => (hk6 b hb).elim (fun h => HV6.out b h) (fun h => by cases h)
  rw [List.length_map]
  have HR6 := hide hr6
  have HK6 := hide hk7
  have HN6 := hide hn6
  clear hr6 hn6 hk6 hk7 hv6 hO7
  have hz6 := hbr6.size
  have f2_0 := (hbr6.box b2 hlb2r _).trans c2_0
  have hlb6 : b2 < w6.heap.size := by omega
  have hl6 : w.heap.size < w6.heap.size := by omega
  have t_0 := (hbr6.box w.heap.size hlr _).trans r_0
  have t_2 := (hbr6.box w.heap.size hlr _).trans r_2
  have hown6 := OwnD.lit1 (k := 2) w6 36 (TEnding.own_mk (x0 := x2_0) (x1 := xy) g2_0 HR6.out) rfl HN6.out
  obtain ⟨nw3, hsr3⟩ := hown6.src
  have HSR3 := hide hsr3
  clear hown6 hsr3
  obtain ⟨os3, hos3⟩ : ∃ l, ((es1.take j).map (putE n a)) = l := ⟨_, rfl⟩
  rw [hos3] at hlen3 HO3
  have HOS3 := hide hos3
  clear hos3
  have HO6 := hide (OwnD.bel HO3.out (show Bel wr (w6.alloc (.cells #[.int .i64 x2_0, .slice A6 xy.length c6] 36)) from bl))
  go_wp2_with (at_builtin; refine wpList_append_D rfl (.tmp 200) (.tmp 208) 31 rfl 36 ie (.agg #[.int .i64 0, .slice none 0 0]) 2 32 Try.underlying31 hie ze0 ze1 ze2 (by decide) (by decide) HO6.out HSR3.out 1 rfl rfl ?c1 ?c2 ?c3 ?_)
  case c1 => exact fun b hb hm => by have h1 := OwnD.lt HO3.out b hb; have h2 := HK6.out b hm; omega
  case c2 => rw [hlen3]; omega
  case c3 => rw [hlen3]; unfold maxLen; omega
  intro v7 w7 hO8 hg8 hw8
  have HD := hide (show [TEnding.D (.mk x2_0 xy)] = [TEnding.D (putE n a es1[j])] by rw [putE_D (b := x2_0) (cs := x2_1) HX2.out, HXY.out, TEnding.D_mk])
  have hO9 := hO8
  rw [show (os3.map TEnding.D ++ [TEnding.D (.mk x2_0 xy)]) = ((es1.take (j + 1)).map (putE n a)).map TEnding.D by rw [HD.out, take_snoc h1, ← HOS3.out]; simp only [List.map_append, List.map_cons, List.map_nil]] at hO9
  have HO9 := hide hO9
  clear hO8 hO9
  have hbr7 : Bel w1 w7 := Below.grown (Bel.trans hbw (show Bel wr (w6.alloc (.cells #[.int .i64 x2_0, .slice A6 xy.length c6] 36)) from bl)) hg8 (by simp; omega) (fun k hk => HB3.out k (Or.inl hk))
  have HK9 := hide (show ∀ b, Blk v7 (L3 ++ L6) b → w1.heap.size ≤ b from fun b hb => hb.elim (fun q => (hw8 b q).elim (fun h => HB3.out b (Or.inl h)) (fun h => by (try simp at h); omega)) (fun q => (List.mem_append.1 q).elim (fun q => HB3.out b (Or.inr q)) (fun q => by have := HK6.out b q; omega)))
  clear hg8 hw8
  go_wp2_with (fail)
  all_goals go_roundw
  case rel => exact ⟨j + 1, L3 ++ L6, by go_num, by omega, hide (OwnD.bel HO9.out bl), hide HK9.out, Bel.trans hbr7 bl⟩
  case measure => simp [intOf]; omega
set_option maxHeartbeats 4000000 in
theorem l19Ends_17 (w0 : World) (ds : List TPattern) (s : ByteArray) (M : Nat) (A : Option Addr) (c d : Nat) (t : ByteArray) (n lo hi : Int) (p : TPattern) (hs : s.size ≤ 120) (hd : d ≤ 2999) (w : World) (vs : List Value) (S : Nat → Prop) (g a : Nat) (hq : Dat.HoldVals w0 S (TPattern.mk 17 t n lo hi [p]).D vs) (hb0 : Bel w0 w) (hM : w0.heap.size ≤ M) (hst : StE w M A ds.length c s ((g : Int) + 1)) (hg : g ≤ d) (ha : a ≤ s.size) (hds : ∀ q ∈ ds, q.vld ds.length = true) (IH : ∀ q, q.vld ds.length = true → SpecC w0 ds s M A c d q) (hv : (TPattern.mk 17 t n lo hi [p]).vld ds.length = true) :
  Calls Try.prog 32 #[.pointer (some ⟨M, 0, none⟩), .agg vs.toArray, .int .i64 a] w (EndsPost w M A ds.length c s ((g : Int) + 1) (endsE ds s (d + 1) (g + 1) (.mk 17 t n lo hi [p]) a)) := by
 obtain ⟨p', hpe, hvp⟩ := TPattern.kids1 hv rfl
 obtain rfl : p = p' := by simpa using hpe
 clear hpe
 obtain ⟨Aq, cq, rfl, gop, gt, gn, glo, ghi, gR⟩ := TPattern.vals hq
 have HQ := hide hq
 have HRQ := hide gR
 have HST := hide hst
 have HB0 := hide hb0
 obtain ⟨hM1, hMf, m0, m1, m2⟩ := hst
 have hqc := gR.1
 have hqm := gR.2.1
 simp only [List.length_map, List.length_cons, List.length_nil, Nat.reduceAdd] at hqc
 unfold maxLen at hqm gt
 clear hq gR hb0
 have hw0 : IntKind.i64.wrap ((g : Int) + 1 - 1) = (g : Int) := by rw [IntKind.wrap_i64]; omega
 have hg0 : decide ((g : Int) < 0) = false := by simp
 have hne : ¬ M = w.heap.size := by omega
 have hne2 : ¬ w.heap.size = M := by omega
 go_enter Try.func32, Try.ntmps32
 go_upto_region 5 with (fail)
 refine wp_namedJ fun wA hwA => ?_
 have k0 : wA.cell? ⟨w.heap.size, 0, none⟩ = some (.int .i64 17) := by rw [← hwA]; simp [go_sem]
 have k1 : wA.cell? ⟨w.heap.size, 1, none⟩ = some (.string t) := by rw [← hwA]; simp [go_sem]
 have k2 : wA.cell? ⟨w.heap.size, 2, none⟩ = some (.int .i64 n) := by rw [← hwA]; simp [go_sem]
 have k3 : wA.cell? ⟨w.heap.size, 3, none⟩ = some (.int .i64 lo) := by rw [← hwA]; simp [go_sem]
 have k4 : wA.cell? ⟨w.heap.size, 4, none⟩ = some (.int .i64 hi) := by rw [← hwA]; simp [go_sem]
 have k5 : wA.cell? ⟨w.heap.size, 5, none⟩ = some (.slice Aq 1 cq) := by rw [← hwA]; simp [go_sem]
 have hzA : wA.heap.size = w.heap.size + 2 := by rw [← hwA]; simp
 have hlA : w.heap.size < wA.heap.size := by omega
 have hMA : M < wA.heap.size := by omega
 have hnA : ¬ w.heap.size = wA.heap.size := by omega
 have hnM : ¬ M = wA.heap.size := by omega
 have HZA := hide hzA
 have HFA := hide (show OffS (fun b => b ≠ M) w wA by rw [← hwA]; exact osl)
 have HSA := hide (show StE wA M A ds.length c s (g : Int) by rw [← hwA]; exact StE.bel (StE.put HST.out _) bl)
 have HBA := hide (show Bel w0 wA from HFA.out.toBel HB0.out (fun x hx => by omega))
 have hInA : InI (a : Int) := by unfold InI; omega
 have HHA := hide (show OwnD wA 36 2 (.slice (some ⟨w.heap.size + 1, 0, none⟩) 1 1) [] [(TEnding.mk a []).D] by rw [← hwA]; have h := OwnD.lit1 (k := 2) ((w.setCell ⟨M, 2, none⟩ (.int .i64 g)).alloc (.cells #[.int .i64 17, .string t, .int .i64 n, .int .i64 lo, .int .i64 hi, .slice Aq 1 cq] 28)) 36 (TEnding.own_mk (x0 := (a : Int)) (x1 := []) hInA (OwnRow.nil _ 3 none 0 (by unfold maxLen; omega))) rfl List.nodup_nil; simpa using h)
 clear hwA hzA m0 m1 m2
 obtain ⟨-, hfA, m0, m1, m2⟩ := HSA.out
 obtain ⟨b1, o1, y1_0, y1_1, y1_2, y1_3, y1_4, y1_5, A1_5, C1_5, hA1, hS1, hl1, hx1, hv1, g1_0, g1_1, g1_2, g1_3, g1_4, g1_5, c1_0, c1_1, c1_2, c1_3, c1_4, c1_5⟩ := TPattern.at (l := [p]) HRQ.out 0 (by simp)
 subst hA1
 have HV1 := hide (show Dat.HoldVals w0 S p.D _ from hv1)
 clear hv1 hx1 hS1 g1_0 g1_1 g1_2 g1_3 g1_4 g1_5
 have hlb1 : b1 < wA.heap.size := Nat.lt_of_lt_of_le hl1 (Bel.size HBA.out)
 have hnb1 : ¬ b1 = w.heap.size := by have := Bel.size HB0.out; omega
 have hMb1 : b1 ≠ M := by omega
 replace c1_0 := (HBA.out.box b1 hl1 _).trans c1_0
 replace c1_1 := (HBA.out.box b1 hl1 _).trans c1_1
 replace c1_2 := (HBA.out.box b1 hl1 _).trans c1_2
 replace c1_3 := (HBA.out.box b1 hl1 _).trans c1_3
 replace c1_4 := (HBA.out.box b1 hl1 _).trans c1_4
 replace c1_5 := (HBA.out.box b1 hl1 _).trans c1_5
 simp only [Nat.zero_mul, Nat.one_mul, Nat.add_zero, Nat.reduceMul, Nat.add_assoc, Nat.reduceAdd] at c1_0 c1_1 c1_2 c1_3 c1_4 c1_5
 obtain ⟨ie, hie, ze0, ze1, ze2⟩ := info_parts infoEnd
 obtain ⟨ic, hic, zc0, zc1, zc2⟩ := info_parts infoCap
 have HOK := hide (endsE_ok (s := s) hds d g p a hvp ha)
 go_upto_region 31 with (go_at_call 32; refine ((IH p hvp) _ _ S (g : Int) (a : Int) HV1.out HBA.out hM HSA.out (by omega) (by omega) (fun _ => by omega) hInA).mono ?_; rintro e w1 ⟨v1, L1, es1, st1, f1, rfl, hst1, hoff1, hO1, hB1, hC1, hout1⟩; obtain ⟨A1, cc1, hv1, hOD1, hR1⟩ := hO1.two; subst hv1; rw [List.length_map] at hOD1 hR1 hB1; have HOD1 := hide hOD1; have HB1 := hide hB1; have HC1 := hide hC1; have HOUT1 := hide hout1; have HST1 := hide hst1; have HOF1 := hide hoff1; have HRR1 := hide hR1; have hlR1 := hR1.1; have hcR1 := hR1.2.1; simp only [List.length_map] at hlR1; unfold maxLen at hcR1; rw [resE_nat] at hout1; have HOUT1 := hide hout1; have hx1 := hoff1.same w.heap.size hne2 hlA; have hzw1 := hoff1.size; have k1_0 := (hx1.1 0).trans k0; have k1_1 := (hx1.1 1).trans k1; have k1_2 := (hx1.1 2).trans k2; have k1_3 := (hx1.1 3).trans k3; have k1_4 := (hx1.1 4).trans k4; have k1_5 := (hx1.1 5).trans k5; obtain ⟨-, hfM1, m1_0, m1_1, m1_2⟩ := HST1.out; have hlw1 : w.heap.size < w1.heap.size := Nat.lt_of_lt_of_le hlA hzw1; have hMw1 : M < w1.heap.size := Nat.lt_of_lt_of_le hMA hzw1; have hnw1 : ¬ w.heap.size = w1.heap.size := (by omega); have hnMw1 : ¬ M = w1.heap.size := (by omega))
 obtain ⟨ff1, ff2, ff3, ff4, -⟩ := OutE.facts HOUT1.out HOK.out
 go_wp2_with (fail)
 go_loopw [25, 26] (fun ov iv wr => ∃ (j : Nat) (L : List Nat), iv = .int .i64 j ∧ j ≤ es1.length ∧ Hid (OwnD wr 36 2 ov L (((es1.take j)).map TEnding.D)) ∧ Hid (∀ b, Blk ov L b → w1.heap.size ≤ b) ∧ Bel w1 wr) (fun _ iv _ => es1.length - (intOf iv).toNat)
 case atStart => exact ⟨0, [], rfl, by omega, hide (by rw [List.take_zero]; exact OwnD.lit0 w1 _ 2), hide (fun b hb => hb.elim (fun h => by have := Option.some.inj (show some w1.heap.size = some b from h); omega) (fun h => by cases h)), bl⟩
 case round => as_aux_lemma =>
  obtain ⟨j, L3, rfl, hj, HO3, HB3, hbw⟩ := hrel
  obtain ⟨A3, c3, hov3, hOD3, -⟩ := HO3.out.two
  subst hov3
  have hlen3 : (((es1.take j)).map TEnding.D).length = j := by simp; omega
  rw [hlen3] at hOD3 HB3
  rw [hlen3]
  clear HO3
  have HO3 := hide hOD3
  clear hOD3
  have hzr := hbw.size
  have hlr : w.heap.size < wr.heap.size := by omega
  have hnr : ¬ w.heap.size = wr.heap.size := by omega
  have r_0 := (hbw.box w.heap.size hlw1 _).trans k1_0
  have r_1 := (hbw.box w.heap.size hlw1 _).trans k1_1
  have r_2 := (hbw.box w.heap.size hlw1 _).trans k1_2
  have r_3 := (hbw.box w.heap.size hlw1 _).trans k1_3
  have r_4 := (hbw.box w.heap.size hlw1 _).trans k1_4
  have r_5 := (hbw.box w.heap.size hlw1 _).trans k1_5
  by_cases h1 : j < es1.length
  case neg => as_aux_lemma =>
   obtain rfl : j = es1.length := by omega
   have hd : decide ((es1.length : Int) < (es1.length : Int)) = false := by simp
   have hdn : decide (es1.length < es1.length) = false := by simp
   rw [List.take_length] at HO3
   have HE := hide (show OutE ((g : Int) + 1) (endsE ds s (d + 1) (g + 1) (.mk 17 t n lo hi [p]) a) es1 st1 f1 by rw [ends17_eq]; exact OutE.up HOUT1.out)
   go_wp2_with (fail)
   all_goals
    go_returns
    exact ⟨_, L3, _, st1, f1, rfl, StE.bel (StE.bel HST1.out hbw) bl, OffS.trans HFA.out (OffS.bel (OffS.bel HOF1.out hbw) bl), OwnD.bel HO3.out bl, fun b hb => by have := HB3.out b hb; omega, fun x hx => by have := HC1.out x hx; omega, HE.out⟩
  case pos =>
  have hd : decide ((j : Int) < (es1.length : Int)) = true := by simp; omega
  have hdn : decide (j < es1.length) = true := by simp; omega
  have hj0 : 0 ≤ (j : Int) := by omega
  have hj1 : (j : Int) < (es1.length : Int) := by omega
  obtain ⟨b2, o2, x2_0, x2_1, A2_1, C2_1, hA2, hSb2, hlb2, hx2, hv2, g2_0, g2_1, c2_0, c2_1⟩ := TEnding.at HRR1.out j h1
  subst hA2
  have HX2 := hide hx2
  have GR2 := hide g2_1
  have hcs := HC1.out es1[j] (List.getElem_mem h1)
  rw [hx2] at hcs
  simp only [TEnding.cs] at hcs
  have hcl : x2_1.length ≤ 9000 := by omega
  clear hcs hx2 hv2 g2_1
  replace c2_0 := (hbw.box b2 hlb2 _).trans c2_0
  replace c2_1 := (hbw.box b2 hlb2 _).trans c2_1
  have hlb2r : b2 < wr.heap.size := by omega
  obtain ⟨nw1, hsr1⟩ := Row.src (capD_flat x2_1) (Row.bel (show Bel w1 (wr.alloc (.cells #[] 40)) from bl) GR2.out)
  rw [List.length_map] at hsr1
  have HSR1 := hide hsr1
  have HOz := hide (OwnD.lit0 wr 40 3)
  clear hsr1
  go_wp2_with (at_builtin; refine wpList_append_D rfl (.tmp 178) (.tmp 183) 34 rfl 40 ic (.agg #[.int .i64 0, .int .i64 0, .int .i64 0]) 3 24 Try.underlying34 hic zc0 zc1 zc2 (by decide) (by decide) HOz.out HSR1.out C2_1 rfl rfl ?c1 ?c2 ?c3 ?_)
  case c1 => exact fun b _ h => by cases h
  case c2 => simp only [List.length_nil]; omega
  case c3 => simp only [List.length_nil]; unfold maxLen; omega
  intro v5 w5 hO5 hg5 hw5
  have hbr5 : Bel wr w5 := Below.grown (show Bel wr (wr.alloc (.cells #[] 40)) from bl) hg5 (by simp) (fun k hk => by have := Option.some.inj (show some wr.heap.size = some k from hk); omega)
  have hv5 : ∀ b, v5.ownBlock = some b → wr.heap.size ≤ b := fun b hb => (hw5 b hb).elim (fun h => by have := Option.some.inj (show some wr.heap.size = some b from h); omega) (fun h => by (try simp at h); omega)
  have HV5 := hide hv5
  have HO5 := hide (show OwnD w5 40 3 v5 [] (x2_1.map TCapture.D) by simpa using hO5)
  clear hO5 hg5 hw5 hv5
  have hz5 := hbr5.size
  have s_0 := (hbr5.box w.heap.size hlr _).trans r_0
  have s_1 := (hbr5.box w.heap.size hlr _).trans r_1
  have s_2 := (hbr5.box w.heap.size hlr _).trans r_2
  have s_3 := (hbr5.box w.heap.size hlr _).trans r_3
  have s_4 := (hbr5.box w.heap.size hlr _).trans r_4
  have s_5 := (hbr5.box w.heap.size hlr _).trans r_5
  have d2_0 := (hbr5.box b2 hlb2r _).trans c2_0
  have hl5 : w.heap.size < w5.heap.size := by omega
  have hlb5 : b2 < w5.heap.size := by omega
  obtain ⟨w6, hw6⟩ : ∃ x : World, x = w5 := ⟨_, rfl⟩
  subst hw6
  have hbr6 := hbr5
  have hv6 := HV5.out
  obtain ⟨xy, hxy⟩ : ∃ l, x2_1 = l := ⟨_, rfl⟩
  have HXY := hide hxy
  have hO7 : OwnD w6 40 3 v5 [] (xy.map TCapture.D) := by rw [← hxy]; exact HO5.out
  clear hxy
  obtain ⟨A6, c6, L6, hv6e, hr6, hn6, hk6⟩ := hO7.ownRow
  subst hv6e
  have HV6 := hide hv6
  have hk7 : ∀ b, b ∈ L6 → wr.heap.size ≤ b := fun b hb => (hk6 b hb).elim (fun h => HV6.out b h) (fun h => by cases h)
  (try rw [List.length_map])
  have HR6 := hide hr6
  have HK6 := hide hk7
  have HN6 := hide hn6
  clear hr6 hn6 hk6 hk7 hv6 hO7
  have hz6 := hbr6.size
  have f2_0 := (hbr6.box b2 hlb2r _).trans c2_0
  have hlb6 : b2 < w6.heap.size := by omega
  have hl6 : w.heap.size < w6.heap.size := by omega
  have t_0 := (hbr6.box w.heap.size hlr _).trans r_0
  have t_2 := (hbr6.box w.heap.size hlr _).trans r_2
  have hown6 := OwnD.lit1 (k := 2) w6 36 (TEnding.own_mk (x0 := x2_0) (x1 := xy) g2_0 HR6.out) rfl HN6.out
  obtain ⟨nw3, hsr3⟩ := hown6.src
  have HSR3 := hide hsr3
  clear hown6 hsr3
  obtain ⟨os3, hos3⟩ : ∃ l, ((es1.take j)) = l := ⟨_, rfl⟩
  rw [hos3] at hlen3 HO3
  have HOS3 := hide hos3
  clear hos3
  have HO6 := hide (OwnD.bel HO3.out (show Bel wr (w6.alloc (.cells #[.int .i64 x2_0, .slice A6 xy.length c6] 36)) from bl))
  go_wp2_with (at_builtin; refine wpList_append_D rfl (.tmp 200) (.tmp 208) 31 rfl 36 ie (.agg #[.int .i64 0, .slice none 0 0]) 2 32 Try.underlying31 hie ze0 ze1 ze2 (by decide) (by decide) HO6.out HSR3.out 1 rfl rfl ?c1 ?c2 ?c3 ?_)
  case c1 => exact fun b hb hm => by have h1 := OwnD.lt HO3.out b hb; have h2 := HK6.out b hm; omega
  case c2 => rw [hlen3]; omega
  case c3 => rw [hlen3]; unfold maxLen; omega
  intro v7 w7 hO8 hg8 hw8
  have HD := hide (show [TEnding.D (.mk x2_0 xy)] = [TEnding.D es1[j]] by rw [HX2.out, HXY.out])
  have hO9 := hO8
  rw [show (os3.map TEnding.D ++ [TEnding.D (.mk x2_0 xy)]) = ((es1.take (j + 1))).map TEnding.D by rw [HD.out, take_snoc h1, ← HOS3.out]; simp only [List.map_append, List.map_cons, List.map_nil]] at hO9
  have HO9 := hide hO9
  clear hO8 hO9
  have hbr7 : Bel w1 w7 := Below.grown (Bel.trans hbw (show Bel wr (w6.alloc (.cells #[.int .i64 x2_0, .slice A6 xy.length c6] 36)) from bl)) hg8 (by simp; omega) (fun k hk => HB3.out k (Or.inl hk))
  have HK9 := hide (show ∀ b, Blk v7 (L3 ++ L6) b → w1.heap.size ≤ b from fun b hb => hb.elim (fun q => (hw8 b q).elim (fun h => HB3.out b (Or.inl h)) (fun h => by (try simp at h); omega)) (fun q => (List.mem_append.1 q).elim (fun q => HB3.out b (Or.inr q)) (fun q => by have := HK6.out b q; omega)))
  clear hg8 hw8
  go_wp2_with (fail)
  all_goals go_roundw
  case rel => exact ⟨j + 1, L3 ++ L6, by go_num, by omega, hide (OwnD.bel HO9.out bl), hide HK9.out, Bel.trans hbr7 bl⟩
  case measure => simp [intOf]; omega
set_option maxHeartbeats 4000000 in
theorem l19Ends_11 (w0 : World) (ds : List TPattern) (s : ByteArray) (M : Nat) (A : Option Addr) (c d : Nat) (t : ByteArray) (n lo hi : Int) (ks : List TPattern) (hs : s.size ≤ 120) (hd : d ≤ 2999) (w : World) (vs : List Value) (S : Nat → Prop) (g a : Nat) (hq : Dat.HoldVals w0 S (TPattern.mk 11 t n lo hi ks).D vs) (hb0 : Bel w0 w) (hM : w0.heap.size ≤ M) (hst : StE w M A ds.length c s ((g : Int) + 1)) (hg : g ≤ d) (ha : a ≤ s.size) :
  Calls Try.prog 32 #[.pointer (some ⟨M, 0, none⟩), .agg vs.toArray, .int .i64 a] w (EndsPost w M A ds.length c s ((g : Int) + 1) (endsE ds s (d + 1) (g + 1) (.mk 11 t n lo hi ks) a)) := by
 obtain ⟨Aq, cq, rfl, gop, gt, gn, glo, ghi, gR⟩ := TPattern.vals hq
 have HQ := hide hq
 have HRQ := hide gR
 have HST := hide hst
 have HB0 := hide hb0
 obtain ⟨hM1, hMf, m0, m1, m2⟩ := hst
 have hqc := gR.1
 have hqm := gR.2.1
 simp only [List.length_map, List.length_cons, List.length_nil, Nat.reduceAdd] at hqc
 unfold maxLen at hqm gt
 clear hq gR hb0
 have hw0 : IntKind.i64.wrap ((g : Int) + 1 - 1) = (g : Int) := by rw [IntKind.wrap_i64]; omega
 have hg0 : decide ((g : Int) < 0) = false := by simp
 have hne : ¬ M = w.heap.size := by omega
 have hne2 : ¬ w.heap.size = M := by omega
 go_enter Try.func32, Try.ntmps32
 go_upto_region 5 with (fail)
 refine wp_namedJ fun wA hwA => ?_
 have k0 : wA.cell? ⟨w.heap.size, 0, none⟩ = some (.int .i64 11) := by rw [← hwA]; simp [go_sem]
 have k1 : wA.cell? ⟨w.heap.size, 1, none⟩ = some (.string t) := by rw [← hwA]; simp [go_sem]
 have k2 : wA.cell? ⟨w.heap.size, 2, none⟩ = some (.int .i64 n) := by rw [← hwA]; simp [go_sem]
 have k3 : wA.cell? ⟨w.heap.size, 3, none⟩ = some (.int .i64 lo) := by rw [← hwA]; simp [go_sem]
 have k4 : wA.cell? ⟨w.heap.size, 4, none⟩ = some (.int .i64 hi) := by rw [← hwA]; simp [go_sem]
 have k5 : wA.cell? ⟨w.heap.size, 5, none⟩ = some (.slice Aq ks.length cq) := by rw [← hwA]; simp [go_sem]
 have hzA : wA.heap.size = w.heap.size + 2 := by rw [← hwA]; simp
 have hlA : w.heap.size < wA.heap.size := by omega
 have hMA : M < wA.heap.size := by omega
 have hnA : ¬ w.heap.size = wA.heap.size := by omega
 have hnM : ¬ M = wA.heap.size := by omega
 have HZA := hide hzA
 have HFA := hide (show OffS (fun b => b ≠ M) w wA by rw [← hwA]; exact osl)
 have HSA := hide (show StE wA M A ds.length c s (g : Int) by rw [← hwA]; exact StE.bel (StE.put HST.out _) bl)
 have HBA := hide (show Bel w0 wA from HFA.out.toBel HB0.out (fun x hx => by omega))
 have hInA : InI (a : Int) := by unfold InI; omega
 have HHA := hide (show OwnD wA 36 2 (.slice (some ⟨w.heap.size + 1, 0, none⟩) 1 1) [] [(TEnding.mk a []).D] by rw [← hwA]; have h := OwnD.lit1 (k := 2) ((w.setCell ⟨M, 2, none⟩ (.int .i64 g)).alloc (.cells #[.int .i64 11, .string t, .int .i64 n, .int .i64 lo, .int .i64 hi, .slice Aq ks.length cq] 28)) 36 (TEnding.own_mk (x0 := (a : Int)) (x1 := []) hInA (OwnRow.nil _ 3 none 0 (by unfold maxLen; omega))) rfl List.nodup_nil; simpa using h)
 clear hwA hzA m0 m1 m2
 obtain ⟨-, hfA, m0, m1, m2⟩ := HSA.out
 obtain ⟨ie, hie, ze0, ze1, ze2⟩ := info_parts infoEnd
 obtain ⟨ic, hic, zc0, zc1, zc2⟩ := info_parts infoCap
 have HE := hide (arb_out (ds := ds) (d := d) (g := g) (t := t) (n := n) (lo := lo) (hi := hi) (ks := ks) ha hs)
 have hw9 : IntKind.i64.wrap ((g : Int) - ((s.size + 1 - a : Nat) : Int)) = (g : Int) - ((s.size + 1 - a : Nat) : Int) := by rw [IntKind.wrap_i64]; omega
 go_wp2_with (fail)
 go_loopw [9, 10] (fun ov iv wr => ∃ i : Nat, iv = .int .i64 i ∧ a ≤ i ∧ i ≤ s.size + 1 ∧ Hid (OwnD wr 36 2 ov [] (((List.range (i - a)).map fun k => TEnding.mk ((a + k : Nat) : Int) []).map TEnding.D)) ∧ Hid (∀ b, Blk ov [] b → wA.heap.size ≤ b) ∧ Bel wA wr) (fun _ iv _ => s.size + 1 - (intOf iv).toNat)
 case atStart => exact ⟨a, rfl, by omega, by omega, hide (by rw [Nat.sub_self]; exact OwnD.lit0 wA _ 2), hide (fun b hb => hb.elim (fun h => by have := Option.some.inj (show some wA.heap.size = some b from h); omega) (fun h => by cases h)), bl⟩
 case round => as_aux_lemma =>
  obtain ⟨i, rfl, hai, his, HO3, HB3, hbw⟩ := hrel
  obtain ⟨A3, c3, hov3, hOD3, -⟩ := HO3.out.two
  subst hov3
  have hlen3 : (((List.range (i - a)).map fun k => TEnding.mk ((a + k : Nat) : Int) []).map TEnding.D).length = i - a := by simp
  rw [hlen3] at hOD3 HB3
  rw [hlen3]
  clear HO3
  have HO3 := hide hOD3
  clear hOD3
  have hzr := hbw.size
  have hlr : w.heap.size < wr.heap.size := by omega
  have hMr : M < wr.heap.size := by omega
  have hnr : ¬ w.heap.size = wr.heap.size := by omega
  have hnMr : ¬ M = wr.heap.size := by omega
  have r1 := (hbw.box M hMA _).trans m1
  have r2 := (hbw.box M hMA _).trans m2
  have rf : ∀ o, wr.frozen? ⟨M, o, none⟩ = false := fun o => (hbw.boxf M hMA o).trans (hfA o)
  by_cases h1 : i ≤ s.size
  case neg => as_aux_lemma =>
   obtain rfl : i = s.size + 1 := by omega
   have hd : decide (((s.size + 1 : Nat) : Int) ≤ (s.size : Int)) = false := by simp; omega
   have hd2 : decide ((s.size : Int) + 1 ≤ (s.size : Int)) = false := by simp; omega
   have hlc : (((s.size + 1 - a : Nat) : Int)) = (s.size : Int) + 1 - (a : Int) := by omega
   go_wp2_with (fail)
   all_goals
    go_returns
    refine ⟨_, [], _, false, (g : Int) - ((s.size + 1 - a : Nat) : Int), rfl, ?_, ?_, OwnD.keep HO3.out (by simp) (fun b hb => Below.heap_setCell _ _ _ _ (fun e => by have h := HB3.out b hb; have e2 : M = b ∨ b = M := (by first | exact Or.inl e | exact Or.inr e); omega)), fun b hb => by have := HB3.out b hb; omega, fun x hx => by obtain ⟨y, hy, rfl⟩ := List.mem_map.1 hx; simp only [TEnding.cs, List.length_nil]; omega, HE.out⟩
    ·
     rw [show (g : Int) - ((s.size + 1 - a : Nat) : Int) = (g : Int) - ((s.size : Int) + 1 - (a : Int)) by omega]; exact StE.put (StE.bel HSA.out hbw) _
    ·
     exact OffS.trans HFA.out (OffS.set (OffS.of_bel _ hbw) (by simp) _)
  case pos =>
  have hd : decide ((i : Int) ≤ (s.size : Int)) = true := by simp; omega
  have hInI : InI (i : Int) := by unfold InI; omega
  have hown6 := OwnD.lit1 (k := 2) wr 36 (TEnding.own_mk (x0 := (i : Int)) (x1 := []) hInI (OwnRow.nil _ 3 none 0 (by unfold maxLen; omega))) rfl List.nodup_nil
  obtain ⟨nw3, hsr3⟩ := hown6.src
  have HSR3 := hide hsr3
  clear hown6 hsr3
  obtain ⟨os3, hos3⟩ : ∃ l, ((List.range (i - a)).map fun k => TEnding.mk ((a + k : Nat) : Int) []) = l := ⟨_, rfl⟩
  rw [hos3] at hlen3 HO3
  have HOS3 := hide hos3
  clear hos3
  have HO6 := hide (OwnD.bel HO3.out (show Bel wr (wr.alloc (.cells #[.int .i64 (i : Int), .slice none 0 0] 36)) from bl))
  go_wp2_with (at_builtin; refine wpList_append_D rfl (.tmp 59) (.tmp 62) 31 rfl 36 ie (.agg #[.int .i64 0, .slice none 0 0]) 2 32 Try.underlying31 hie ze0 ze1 ze2 (by decide) (by decide) HO6.out HSR3.out 1 rfl rfl ?c1 ?c2 ?c3 ?_)
  case c1 => exact fun b hb hm => by cases hm
  case c2 => rw [hlen3]; omega
  case c3 => rw [hlen3]; unfold maxLen; omega
  intro v7 w7 hO8 hg8 hw8
  have hO9 : OwnD w7 36 2 v7 [] (((List.range (i + 1 - a)).map fun k => TEnding.mk ((a + k : Nat) : Int) []).map TEnding.D) := by
   rw [show i + 1 - a = (i - a) + 1 by omega, List.range_succ, List.map_append, List.map_append, HOS3.out, List.map_cons, List.map_nil, List.map_cons, List.map_nil, show a + (i - a) = i by omega]
   simpa using hO8
  have HO9 := hide hO9
  clear hO8 hO9
  have hbr7 : Bel wA w7 := Below.grown (Bel.trans hbw (show Bel wr (wr.alloc (.cells #[.int .i64 (i : Int), .slice none 0 0] 36)) from bl)) hg8 (by simp; omega) (fun k hk => HB3.out k (Or.inl hk))
  have HK9 := hide (show ∀ b, Blk v7 [] b → wA.heap.size ≤ b from fun b hb => hb.elim (fun q => (hw8 b q).elim (fun h => HB3.out b (Or.inl h)) (fun h => by (try simp at h); omega)) (fun q => by cases q))
  clear hg8 hw8
  go_wp2_with (fail)
  all_goals go_roundw
  case rel => exact ⟨i + 1, by go_num, by omega, by omega, hide HO9.out, hide HK9.out, Bel.trans hbr7 bl⟩
  case measure => simp [intOf]; omega
end Go.Proofs.Ytdjbfneniohaaaa
