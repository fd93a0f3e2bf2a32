/- The program's evaluation: operations that make a list. -/
import Derived.Test.YtdjbfneniohaaaaPJd
import Derived.Deep.RegionHeld3
import Derived.Deep.Cut
import Derived.OwnWalk
namespace Go.Proofs.Ytdjbfneniohaaaa
set_option linter.unusedVariables false
set_option linter.unusedSimpArgs false
set_option maxRecDepth 100000
open Go.RowKit
set_option maxHeartbeats 4000000 in
theorem eval_16 (w0 : World) (ds : List TPattern) (s : ByteArray) (M : Nat) (A : Option Addr) (c d : Nat) (t : ByteArray) (n lo hi : Int) (p : TPattern) (hs : s.size ≤ 120) (hd : d ≤ 2999) (w : World) (vs : List Value) (S : Nat → Prop) (g a : Nat) (hq : Dat.HoldVals w0 S (TPattern.mk 16 t n lo hi [p]).D vs) (hb0 : Bel w0 w) (hM : w0.heap.size ≤ M) (hst : StI w M A ds.length c s ((g : Int) + 1)) (hg : g ≤ d) (ha : a ≤ s.size) (hds : ∀ q ∈ ds, q.vld ds.length = true) (IH : ∀ q, q.vld ds.length = true → ImpC w0 ds s M A c d q) (hv : (TPattern.mk 16 t n lo hi [p]).vld ds.length = true) :
  Calls Try.prog 29 #[.pointer (some ⟨M, 0, none⟩), .agg vs.toArray, .int .i64 a] w (EndsPostI w M A ds.length c s ((g : Int) + 1) (endsE ds s (d + 1) (g + 1) (.mk 16 t n lo hi [p]) a)) := by
 obtain ⟨p', hpe, hvp⟩ := TPattern.kids1 hv rfl
 obtain rfl : p = p' := by simpa using hpe
 clear hpe
 obtain ⟨Aq, cq, rfl, gop, gt, gn, glo, ghi, gR⟩ := TPattern.vals hq
 have HQ := hide hq
 have HRQ := hide gR
 have HST := hide hst
 have HB0 := hide hb0
 have hM1 := hst.1
 have hqc := gR.1
 have hqm := gR.2.1
 simp only [List.length_map, List.length_cons, List.length_nil, Nat.reduceAdd] at hqc
 unfold maxLen at hqm gt
 clear hq gR hb0 hst
 have hne : ¬ M = w.heap.size := by omega
 have hne2 : ¬ w.heap.size = M := by omega
 have hd1 : decide (0 < (g : Int) + 1) = true := decide_eq_true (by omega)
 have hInA : InI (a : Int) := by unfold InI; omega
 go_enter Try.func29, Try.ntmps29
 go_upto_region 3 with (go_at_call 50; refine (step_any _ M A ds.length c s _ (StI.bel HST.out bl) (by omega) (by omega)).mono ?_; rintro e w1 ⟨rfl, hst1, hoff1⟩; rw [hd1])
 have HS1 := hide (show StI w1 M A ds.length c s (g : Int) by have h := hst1; rw [show (g : Int) + 1 - 1 = (g : Int) by omega] at h; exact h)
 have hz1 := hoff1.size
 simp only [World.size_alloc] at hz1
 have hx1 := hoff1.same w.heap.size hne2 (by simp)
 have p_0 : w1.cell? ⟨w.heap.size, 0, none⟩ = some (.int .i64 16) := (hx1.1 0).trans (by simp)
 have p_1 : w1.cell? ⟨w.heap.size, 1, none⟩ = some (.string t) := (hx1.1 1).trans (by simp)
 have p_2 : w1.cell? ⟨w.heap.size, 2, none⟩ = some (.int .i64 n) := (hx1.1 2).trans (by simp)
 have p_3 : w1.cell? ⟨w.heap.size, 3, none⟩ = some (.int .i64 lo) := (hx1.1 3).trans (by simp)
 have p_4 : w1.cell? ⟨w.heap.size, 4, none⟩ = some (.int .i64 hi) := (hx1.1 4).trans (by simp)
 have p_5 : w1.cell? ⟨w.heap.size, 5, none⟩ = some (.slice Aq 1 cq) := (hx1.1 5).trans (by simp)
 have HF1 := hide (OffS.via (OffS.of_bel (fun b => b ≠ M) (show Bel w (w.alloc (.cells #[.int .i64 16, .string t, .int .i64 n, .int .i64 lo, .int .i64 hi, .slice Aq 1 cq] 28)) from bl)) hoff1 (fun b hb _ => hb))
 clear hst1 hoff1 hx1
 obtain ⟨hM2, -, -, z1, -⟩ := HS1.out
 have hl1 : w.heap.size < w1.heap.size := by omega
 have hn1 : ¬ w.heap.size = w1.heap.size := by omega
 have hnm1 : ¬ M = w1.heap.size := by omega
 go_region_held3 (fun w' => w'.cell? ⟨w.heap.size, 0, none⟩ = some (.int .i64 16) ∧ w'.cell? ⟨w.heap.size, 1, none⟩ = some (.string t) ∧ w'.cell? ⟨w.heap.size, 2, none⟩ = some (.int .i64 n) ∧ w'.cell? ⟨w.heap.size, 3, none⟩ = some (.int .i64 lo) ∧ w'.cell? ⟨w.heap.size, 4, none⟩ = some (.int .i64 hi) ∧ w'.cell? ⟨w.heap.size, 5, none⟩ = some (.slice Aq 1 cq) ∧ w'.cell? ⟨M, 1, none⟩ = some (.string s)) (go_keep) (first | (go_at_call 51; refine (simple_16 n lo hi t s a Aq 1 cq _).mono ?_; rintro e w2 ⟨rfl, hb2⟩; (have hz2 := hb2.sz; obtain ⟨hk2_0, hf2_0, hl2_0, hn2_0⟩ := hb2.lay (w.heap.size); obtain ⟨hk2_1, hf2_1, hl2_1, hn2_1⟩ := hb2.lay (M))))
 go_upto_region 8 with (fail)
 refine wp_namedJ fun wA hwA => ?_
 have hbA : Bel w1 wA := by rw [← hwA]; exact bl
 have hzA := hbA.size
 have k0 := (hbA.box w.heap.size hl1 _).trans p_0
 have k1 := (hbA.box w.heap.size hl1 _).trans p_1
 have k2 := (hbA.box w.heap.size hl1 _).trans p_2
 have k3 := (hbA.box w.heap.size hl1 _).trans p_3
 have k4 := (hbA.box w.heap.size hl1 _).trans p_4
 have k5 := (hbA.box w.heap.size hl1 _).trans p_5
 have hlA : w.heap.size < wA.heap.size := by omega
 have hMA : M < wA.heap.size := by omega
 have hnA : ¬ w.heap.size = wA.heap.size := by omega
 have hnM : ¬ M = wA.heap.size := by omega
 have HFA := hide (OffS.bel HF1.out hbA)
 have HSA := hide (StI.bel HS1.out hbA)
 have HBA := hide (show Bel w0 wA from HFA.out.toBel HB0.out (fun x hx => by omega))
 clear hwA hbA hzA p_0 p_1 p_2 p_3 p_4 p_5 z1
 obtain ⟨-, hfA, m0, m1, m2, m3⟩ := HSA.out
 have hng : decide ((g : Int) < 0) = false := by simp
 rw [hng] at m3
 obtain ⟨b1, o1, y1_0, y1_1, y1_2, y1_3, y1_4, y1_5, A1_5, C1_5, hA1, hS1, hl1, hx1, hv1, g1_0, g1_1, g1_2, g1_3, g1_4, g1_5, c1_0, c1_1, c1_2, c1_3, c1_4, c1_5⟩ := TPattern.at (l := [p]) HRQ.out 0 (by simp)
 subst hA1
 have HV1 := hide (show Dat.HoldVals w0 S p.D _ from hv1)
 clear hv1 hx1 hS1 g1_0 g1_1 g1_2 g1_3 g1_4 g1_5
 have hlb1 : b1 < wA.heap.size := Nat.lt_of_lt_of_le hl1 (Bel.size HBA.out)
 have hnb1 : ¬ b1 = w.heap.size := by have := Bel.size HB0.out; omega
 have hMb1 : b1 ≠ M := by omega
 replace c1_0 := (HBA.out.box b1 hl1 _).trans c1_0
 replace c1_1 := (HBA.out.box b1 hl1 _).trans c1_1
 replace c1_2 := (HBA.out.box b1 hl1 _).trans c1_2
 replace c1_3 := (HBA.out.box b1 hl1 _).trans c1_3
 replace c1_4 := (HBA.out.box b1 hl1 _).trans c1_4
 replace c1_5 := (HBA.out.box b1 hl1 _).trans c1_5
 simp only [Nat.zero_mul, Nat.one_mul, Nat.add_zero, Nat.reduceMul, Nat.add_assoc, Nat.reduceAdd] at c1_0 c1_1 c1_2 c1_3 c1_4 c1_5
 obtain ⟨ie, hie, ze0, ze1, ze2⟩ := info_parts infoEnd
 obtain ⟨ic, hic, zc0, zc1, zc2⟩ := info_parts infoCap
 have HOK := hide (endsE_ok (s := s) hds d g p a hvp ha)
 go_upto_region 36 with (go_at_call 29; refine ((IH p hvp) _ _ S (g : Int) (a : Int) HV1.out HBA.out hM HSA.out (by omega) (by omega) (fun _ => by omega) hInA).mono ?_; rintro e w1 ⟨v1, L1, es1, st1, f1, rfl, hst1, hoff1, hO1, hB1, hC1, hout1⟩; obtain ⟨A1, cc1, hv1, hOD1, hR1⟩ := hO1.two; subst hv1; rw [List.length_map] at hOD1 hR1 hB1; have HOD1 := hide hOD1; have HB1 := hide hB1; have HC1 := hide hC1; have HOUT1 := hide hout1; have HST1 := hide hst1; have HOF1 := hide hoff1; have HRR1 := hide hR1; have hlR1 := hR1.1; have hcR1 := hR1.2.1; simp only [List.length_map] at hlR1; unfold maxLen at hcR1; rw [resE_nat] at hout1; have HOUT1 := hide hout1; have hx1 := hoff1.same w.heap.size hne2 hlA; have hzw1 := hoff1.size; have k1_0 := (hx1.1 0).trans k0; have k1_1 := (hx1.1 1).trans k1; have k1_2 := (hx1.1 2).trans k2; have k1_3 := (hx1.1 3).trans k3; have k1_4 := (hx1.1 4).trans k4; have k1_5 := (hx1.1 5).trans k5; obtain ⟨-, hfM1, m1_0, m1_1, m1_2⟩ := HST1.out; have hlw1 : w.heap.size < w1.heap.size := Nat.lt_of_lt_of_le hlA hzw1; have hMw1 : M < w1.heap.size := Nat.lt_of_lt_of_le hMA hzw1; have hnw1 : ¬ w.heap.size = w1.heap.size := (by omega); have hnMw1 : ¬ M = w1.heap.size := (by omega))
 obtain ⟨ff1, ff2, ff3, ff4, -⟩ := OutE.facts HOUT1.out HOK.out
 have HE := hide (put_out (t := t) (n := n) (lo := lo) (hi := hi) HOUT1.out)
 go_wp2_with (fail)
 go_loopw [23, 173] (fun ov iv wr => ∃ (j : Nat) (L : List Nat), iv = .int .i64 j ∧ j ≤ es1.length ∧ Hid (OwnD wr 36 2 ov L (((es1.take j).map (putE n a)).map TEnding.D)) ∧ Hid (∀ b, Blk ov L b → w1.heap.size ≤ b) ∧ Bel w1 wr) (fun _ iv _ => es1.length - (intOf iv).toNat)
 case atStart => exact ⟨0, [], rfl, by omega, hide (by rw [List.take_zero]; exact OwnD.lit0 w1 _ 2), hide (fun b hb => hb.elim (fun h => by have := Option.some.inj (show some w1.heap.size = some b from h); omega) (fun h => by cases h)), bl⟩
 case round => as_aux_lemma =>
  obtain ⟨j, L3, rfl, hj, HO3, HB3, hbw⟩ := hrel
  obtain ⟨A3, c3, hov3, hOD3, -⟩ := HO3.out.two
  subst hov3
  have hlen3 : (((es1.take j).map (putE n a)).map TEnding.D).length = j := by simp; omega
  rw [hlen3] at hOD3 HB3
  rw [hlen3]
  clear HO3
  have HO3 := hide hOD3
  clear hOD3
  have hzr := hbw.size
  have hlr : w.heap.size < wr.heap.size := by omega
  have hnr : ¬ w.heap.size = wr.heap.size := by omega
  have r_0 := (hbw.box w.heap.size hlw1 _).trans k1_0
  have r_1 := (hbw.box w.heap.size hlw1 _).trans k1_1
  have r_2 := (hbw.box w.heap.size hlw1 _).trans k1_2
  have r_3 := (hbw.box w.heap.size hlw1 _).trans k1_3
  have r_4 := (hbw.box w.heap.size hlw1 _).trans k1_4
  have r_5 := (hbw.box w.heap.size hlw1 _).trans k1_5
  by_cases h1 : j < es1.length
  case neg => as_aux_lemma =>
   obtain rfl : j = es1.length := by omega
   have hd : decide ((es1.length : Int) < (es1.length : Int)) = false := by simp
   have hdn : decide (es1.length < es1.length) = false := by simp
   rw [List.take_length] at HO3
   go_wp2_with (fail)
   all_goals
    go_returns
    exact ⟨_, L3, _, st1, f1, rfl, StI.bel (StI.bel HST1.out hbw) bl, OffS.trans HFA.out (OffS.bel (OffS.bel HOF1.out hbw) bl), OwnD.bel HO3.out bl, fun b hb => by have := HB3.out b hb; omega, fun x hx => by obtain ⟨y, hy, rfl⟩ := List.mem_map.1 hx; have := HC1.out y hy; simp only [putE, TEnding.cs, List.length_append, List.length_cons, List.length_nil]; simp only [TEnding.cs] at this; omega, HE.out⟩
  case pos =>
  have hd : decide ((j : Int) < (es1.length : Int)) = true := by simp; omega
  have hdn : decide (j < es1.length) = true := by simp; omega
  have hj0 : 0 ≤ (j : Int) := by omega
  have hj1 : (j : Int) < (es1.length : Int) := by omega
  obtain ⟨b2, o2, x2_0, x2_1, A2_1, C2_1, hA2, hSb2, hlb2, hx2, hv2, g2_0, g2_1, c2_0, c2_1⟩ := TEnding.at HRR1.out j h1
  subst hA2
  have HX2 := hide hx2
  have GR2 := hide g2_1
  have hcs := HC1.out es1[j] (List.getElem_mem h1)
  rw [hx2] at hcs
  simp only [TEnding.cs] at hcs
  have hcl : x2_1.length ≤ 9000 := by omega
  clear hcs hx2 hv2 g2_1
  replace c2_0 := (hbw.box b2 hlb2 _).trans c2_0
  replace c2_1 := (hbw.box b2 hlb2 _).trans c2_1
  have hlb2r : b2 < wr.heap.size := by omega
  go_upto_region 40 with (fail)
  refine wp_namedJ fun wB hwB => ?_
  have hbB : Bel wr wB := by rw [← hwB]; exact bl
  have y_0 : wB.cell? ⟨wr.heap.size, 0, none⟩ = some (.int .i64 x2_0) := by rw [← hwB]; clear hwB; simp [go_sem]
  have y_1 : wB.cell? ⟨wr.heap.size, 1, none⟩ = some (.slice A2_1 x2_1.length C2_1) := by rw [← hwB]; clear hwB; simp [go_sem]
  have hzB : wB.heap.size = wr.heap.size + 1 := by rw [← hwB]; simp
  have hlB : w.heap.size < wB.heap.size := by omega
  have hlB1 : wr.heap.size < wB.heap.size := by omega
  have hlrB : wr.heap.size ≤ wB.heap.size := by omega
  clear hzB hwB
  have s_0 := (hbB.box w.heap.size hlr _).trans r_0
  have s_2 := (hbB.box w.heap.size hlr _).trans r_2
  refine wp_region_held_drew (S := fun w' => w'.cell? ⟨wr.heap.size, 0, none⟩ = some (.int .i64 x2_0) ∧ w'.cell? ⟨wr.heap.size, 1, none⟩ = some (.slice A2_1 x2_1.length C2_1) ∧ w'.cell? ⟨w.heap.size, 2, none⟩ = some (.int .i64 n)) (by kernel_rfl) ?_ (fun hHeld => ?_)
  ·
   exact ⟨y_0, y_1, s_2⟩
  refine tkI 0 ?_
  refine tkI 1 ?_
  refine tkI 2 ?_
  refine tkI 3 ?_
  refine tkI 4 ?_
  refine tkI 5 ?_
  refine tkI 6 ?_
  refine tkI 7 ?_
  refine tkI 8 ?_
  refine tkI 9 ?_
  refine tkI 10 ?_
  refine wpAnyH_ready (rs := [11]) (by kernel_rfl) (by simp) ?_
  refine AllReadyH.cons (o := _) rfl (fun K hK => ?_) AllReadyH.nil
  go_simp
  clear hHeld
  have hbX : Bel wB ((wB.alloc (.cells #[.int .i64 n, .int .i64 (a : Int), .int .i64 x2_0] 40)).drew) := bl
  have hOc := OwnD.bel (OwnD.lit1 (k := 3) wB 40 (TCapture.own_mk (x0 := n) (x1 := (a : Int)) (x2 := x2_0) gn hInA g2_0) rfl List.nodup_nil) (show Bel _ ((wB.alloc (.cells #[.int .i64 n, .int .i64 (a : Int), .int .i64 x2_0] 40)).drew) from bl)
  refine hK.out _ _ ?_ (fun hHeld => ?_)
  ·
   exact ⟨(hbX.box wr.heap.size hlB1 _).trans y_0, (hbX.box wr.heap.size hlB1 _).trans y_1, (hbX.box w.heap.size hlB _).trans s_2⟩
  clear hK K
  (try simp only [Act.put, List.setIfInBounds_toArray, List.set_cons_zero, List.set_cons_succ, List.getElem_toArray, List.getElem_cons_zero, List.getElem_cons_succ])
  refine wpAnyH_ready (rs := [12]) (by kernel_rfl) (by simp) ?_
  refine AllReadyH.cons (o := _) rfl (fun K hK => ?_) AllReadyH.nil
  go_simp
  clear hHeld
  obtain ⟨Ac, ccx, hcv, hrowc⟩ := OwnD.row (S := fun _ => True) hOc (fun _ _ => trivial)
  simp only [List.length_cons, List.length_nil, Value.slice.injEq] at hcv
  obtain ⟨hA, -, hcc⟩ := hcv
  subst hA hcc
  go_at_call 53
  refine (join_any _ _ _ x2_1 [TCapture.mk n (a : Int) x2_0] A2_1 _ C2_1 _ (Row.bel (Bel.trans (Bel.trans hbw hbB) hbX) GR2.out) hrowc (by omega) (by simp)).mono ?_
  rintro e w3 ⟨v3, rfl, hO5, hv5, hb5⟩
  have hb3 : Bel wB w3 := Bel.trans hbX hb5
  have hv5b : ∀ b, v3.ownBlock = some b → wr.heap.size ≤ b := fun b hb => by have h1 := hv5 b hb; have h2 := hbX.size; omega
  obtain ⟨xy, hxy⟩ : ∃ l, x2_1 ++ [TCapture.mk n (a : Int) x2_0] = l := ⟨_, rfl⟩
  rw [hxy] at hO5
  have HXY := hide hxy
  clear hxy hv5 hb5 hOc
  obtain ⟨A6, c6, L6, hv6e, hr6, hn6, hk6⟩ := hO5.ownRow
  subst hv6e
  rw [List.length_map] at hv5b hk6
  rw [List.length_map]
  have HR6 := hide hr6
  have HK6 := hide (show ∀ b, b ∈ L6 → wr.heap.size ≤ b from fun b hb => (hk6 b hb).elim (fun h => hv5b b h) (fun h => by cases h))
  have HN6 := hide hn6
  clear hr6 hn6 hk6 hv5b hO5
  have hz6 := hb3.size
  refine hK.out _ _ ?_ (fun hHeld => ?_)
  ·
   exact ⟨(hb3.box wr.heap.size hlB1 _).trans y_0, (hb3.box wr.heap.size hlB1 _).trans y_1, (hb3.box w.heap.size hlB _).trans s_2⟩
  clear hK K
  (try simp only [Act.put, List.setIfInBounds_toArray, List.set_cons_zero, List.set_cons_succ, List.getElem_toArray, List.getElem_cons_zero, List.getElem_cons_succ])
  refine tkI 13 ?_
  refine wpAnyH_ready (rs := [14]) (by kernel_rfl) (by simp) ?_
  refine AllReadyH.cons (o := _) rfl (fun K hK => ?_) AllReadyH.nil
  go_simp
  clear hHeld
  have hown6 := OwnD.lit1 (k := 2) w3 36 (TEnding.own_mk (x0 := x2_0) (x1 := xy) g2_0 HR6.out) rfl HN6.out
  obtain ⟨nw3, hsr3⟩ := hown6.src
  have hb4 : Bel wB (w3.alloc (.cells #[.int .i64 x2_0, .slice A6 xy.length c6] 36)) := bl
  refine hK.out _ _ ?_ (fun hHeld => ?_)
  ·
   exact ⟨(hb4.box wr.heap.size hlB1 _).trans y_0, (hb4.box wr.heap.size hlB1 _).trans y_1, (hb4.box w.heap.size hlB _).trans s_2⟩
  clear hK K
  (try simp only [Act.put, List.setIfInBounds_toArray, List.set_cons_zero, List.set_cons_succ, List.getElem_toArray, List.getElem_cons_zero, List.getElem_cons_succ])
  obtain ⟨os3, hos3⟩ : ∃ l, ((es1.take j).map (putE n a)) = l := ⟨_, rfl⟩
  rw [hos3] at hlen3 HO3
  have HOS3 := hide hos3
  clear hos3
  refine wpAnyH_ready (rs := [15]) (by kernel_rfl) (by simp) ?_
  refine AllReadyH.cons (o := _) rfl (fun K hK => ?_) AllReadyH.nil
  rw [if_pos (by rfl)]
  refine wp_append_D (.tmp 177) (.tmp 191) 31 rfl 36 ie (.agg #[.int .i64 0, .slice none 0 0]) 2 32 Try.underlying31 hie ze0 ze1 ze2 (by decide) (by decide) (OwnD.bel HO3.out (Bel.trans hbB hb4)) hsr3 1 rfl rfl (fun b hb hm => by have h1 := OwnD.lt HO3.out b hb; have h2 := HK6.out b hm; omega) (by rw [hlen3]; omega) (by rw [hlen3]; unfold maxLen; omega) fun v7 w7 hO8 hg8 hw8 => ?_
  have hz4 := hb4.size
  have hbr7 : Bel w1 w7 := Below.grown (Bel.trans hbw (Bel.trans hbB hb4)) hg8 (by omega) (fun k hk => HB3.out k (Or.inl hk))
  have same7 : ∀ b, b < wB.heap.size → (Value.slice A3 j c3).ownBlock ≠ some b → SameB wB w7 b := fun b hb hne => (hb4.same hb).trans ((grown_offS hg8).same b hne (Nat.lt_of_lt_of_le hb hz4))
  have hgx : (Value.slice A3 j c3).ownBlock ≠ some wr.heap.size := fun h => by have := OwnD.lt HO3.out _ (Or.inl h); omega
  have hgw : (Value.slice A3 j c3).ownBlock ≠ some w.heap.size := fun h => by have := HB3.out _ (Or.inl h); omega
  refine hK.out _ _ ?_ (fun hHeld => ?_)
  ·
   exact ⟨((same7 _ hlB1 hgx).1 _).trans y_0, ((same7 _ hlB1 hgx).1 _).trans y_1, ((same7 _ hlB hgw).1 _).trans s_2⟩
  clear hK K
  (try simp only [Act.put, List.setIfInBounds_toArray, List.set_cons_zero, List.set_cons_succ, List.getElem_toArray, List.getElem_cons_zero, List.getElem_cons_succ])
  refine tkI 16 ?_
  refine wpAnyH_done (by kernel_rfl) ?_ _
  clear hHeld
  have HD := hide (show [TEnding.D (.mk x2_0 xy)] = [TEnding.D (putE n a es1[j])] by rw [putE_D (b := x2_0) (cs := x2_1) HX2.out, HXY.out, TEnding.D_mk])
  rw [show (os3.map TEnding.D ++ [TEnding.D (.mk x2_0 xy)]) = ((es1.take (j + 1)).map (putE n a)).map TEnding.D by rw [HD.out, take_snoc h1, ← HOS3.out]; simp only [List.map_append, List.map_cons, List.map_nil]] at hO8
  have HO9 := hide hO8
  clear hO8
  have HK9 := hide (show ∀ b, Blk v7 (L3 ++ L6) b → w1.heap.size ≤ b from fun b hb => hb.elim (fun q => (hw8 b q).elim (fun h => HB3.out b (Or.inl h)) (fun h => by omega)) (fun q => (List.mem_append.1 q).elim (fun q => HB3.out b (Or.inr q)) (fun q => by have := HK6.out b q; omega)))
  clear hg8 hw8 same7 hgx hgw
  go_wp2_with (fail)
  all_goals go_roundw
  case rel => exact ⟨j + 1, L3 ++ L6, by go_num, by omega, hide (OwnD.bel HO9.out bl), hide HK9.out, Bel.trans hbr7 bl⟩
  case measure => simp [intOf]; omega
set_option maxHeartbeats 4000000 in
theorem eval_11 (w0 : World) (ds : List TPattern) (s : ByteArray) (M : Nat) (A : Option Addr) (c d : Nat) (t : ByteArray) (n lo hi : Int) (ks : List TPattern) (hs : s.size ≤ 120) (hd : d ≤ 2999) (w : World) (vs : List Value) (S : Nat → Prop) (g a : Nat) (hq : Dat.HoldVals w0 S (TPattern.mk 11 t n lo hi ks).D vs) (hb0 : Bel w0 w) (hM : w0.heap.size ≤ M) (hst : StI w M A ds.length c s ((g : Int) + 1)) (hg : g ≤ d) (ha : a ≤ s.size) :
  Calls Try.prog 29 #[.pointer (some ⟨M, 0, none⟩), .agg vs.toArray, .int .i64 a] w (EndsPostI w M A ds.length c s ((g : Int) + 1) (endsE ds s (d + 1) (g + 1) (.mk 11 t n lo hi ks) a)) := by
 obtain ⟨Aq, cq, rfl, gop, gt, gn, glo, ghi, gR⟩ := TPattern.vals hq
 have HQ := hide hq
 have HRQ := hide gR
 have HST := hide hst
 have HB0 := hide hb0
 have hM1 := hst.1
 have hqc := gR.1
 have hqm := gR.2.1
 simp only [List.length_map, List.length_cons, List.length_nil, Nat.reduceAdd] at hqc
 unfold maxLen at hqm gt
 clear hq gR hb0 hst
 have hne : ¬ M = w.heap.size := by omega
 have hne2 : ¬ w.heap.size = M := by omega
 have hd1 : decide (0 < (g : Int) + 1) = true := decide_eq_true (by omega)
 have hInA : InI (a : Int) := by unfold InI; omega
 go_enter Try.func29, Try.ntmps29
 go_upto_region 3 with (go_at_call 50; refine (step_any _ M A ds.length c s _ (StI.bel HST.out bl) (by omega) (by omega)).mono ?_; rintro e w1 ⟨rfl, hst1, hoff1⟩; rw [hd1])
 have HS1 := hide (show StI w1 M A ds.length c s (g : Int) by have h := hst1; rw [show (g : Int) + 1 - 1 = (g : Int) by omega] at h; exact h)
 have hz1 := hoff1.size
 simp only [World.size_alloc] at hz1
 have hx1 := hoff1.same w.heap.size hne2 (by simp)
 have p_0 : w1.cell? ⟨w.heap.size, 0, none⟩ = some (.int .i64 11) := (hx1.1 0).trans (by simp)
 have p_1 : w1.cell? ⟨w.heap.size, 1, none⟩ = some (.string t) := (hx1.1 1).trans (by simp)
 have p_2 : w1.cell? ⟨w.heap.size, 2, none⟩ = some (.int .i64 n) := (hx1.1 2).trans (by simp)
 have p_3 : w1.cell? ⟨w.heap.size, 3, none⟩ = some (.int .i64 lo) := (hx1.1 3).trans (by simp)
 have p_4 : w1.cell? ⟨w.heap.size, 4, none⟩ = some (.int .i64 hi) := (hx1.1 4).trans (by simp)
 have p_5 : w1.cell? ⟨w.heap.size, 5, none⟩ = some (.slice Aq ks.length cq) := (hx1.1 5).trans (by simp)
 have HF1 := hide (OffS.via (OffS.of_bel (fun b => b ≠ M) (show Bel w (w.alloc (.cells #[.int .i64 11, .string t, .int .i64 n, .int .i64 lo, .int .i64 hi, .slice Aq ks.length cq] 28)) from bl)) hoff1 (fun b hb _ => hb))
 clear hst1 hoff1 hx1
 obtain ⟨hM2, -, -, z1, -⟩ := HS1.out
 have hl1 : w.heap.size < w1.heap.size := by omega
 have hn1 : ¬ w.heap.size = w1.heap.size := by omega
 have hnm1 : ¬ M = w1.heap.size := by omega
 go_region_held3 (fun w' => w'.cell? ⟨w.heap.size, 0, none⟩ = some (.int .i64 11) ∧ w'.cell? ⟨w.heap.size, 1, none⟩ = some (.string t) ∧ w'.cell? ⟨w.heap.size, 2, none⟩ = some (.int .i64 n) ∧ w'.cell? ⟨w.heap.size, 3, none⟩ = some (.int .i64 lo) ∧ w'.cell? ⟨w.heap.size, 4, none⟩ = some (.int .i64 hi) ∧ w'.cell? ⟨w.heap.size, 5, none⟩ = some (.slice Aq ks.length cq) ∧ w'.cell? ⟨M, 1, none⟩ = some (.string s)) (go_keep) (first | (go_at_call 51; refine (simple_11 n lo hi t s a Aq ks.length cq _).mono ?_; rintro e w2 ⟨rfl, hb2⟩; (have hz2 := hb2.sz; obtain ⟨hk2_0, hf2_0, hl2_0, hn2_0⟩ := hb2.lay (w.heap.size); obtain ⟨hk2_1, hf2_1, hl2_1, hn2_1⟩ := hb2.lay (M))))
 go_upto_region 8 with (fail)
 refine wp_namedJ fun wA hwA => ?_
 have hbA : Bel w1 wA := by rw [← hwA]; exact bl
 have hzA := hbA.size
 have k0 := (hbA.box w.heap.size hl1 _).trans p_0
 have k1 := (hbA.box w.heap.size hl1 _).trans p_1
 have k2 := (hbA.box w.heap.size hl1 _).trans p_2
 have k3 := (hbA.box w.heap.size hl1 _).trans p_3
 have k4 := (hbA.box w.heap.size hl1 _).trans p_4
 have k5 := (hbA.box w.heap.size hl1 _).trans p_5
 have hlA : w.heap.size < wA.heap.size := by omega
 have hMA : M < wA.heap.size := by omega
 have hnA : ¬ w.heap.size = wA.heap.size := by omega
 have hnM : ¬ M = wA.heap.size := by omega
 have HFA := hide (OffS.bel HF1.out hbA)
 have HSA := hide (StI.bel HS1.out hbA)
 have HBA := hide (show Bel w0 wA from HFA.out.toBel HB0.out (fun x hx => by omega))
 clear hwA hbA hzA p_0 p_1 p_2 p_3 p_4 p_5 z1
 obtain ⟨-, hfA, m0, m1, m2, m3⟩ := HSA.out
 have hng : decide ((g : Int) < 0) = false := by simp
 rw [hng] at m3
 obtain ⟨ie, hie, ze0, ze1, ze2⟩ := info_parts infoEnd
 obtain ⟨ic, hic, zc0, zc1, zc2⟩ := info_parts infoCap
 have HE := hide (arb_out (ds := ds) (d := d) (g := g) (t := t) (n := n) (lo := lo) (hi := hi) (ks := ks) ha hs)
 have HED := hide (fun (i : Nat) (q1 : a ≤ i) (q2 : i ≤ s.size) (q3 : (g : Int) - ((i : Int) - a) ≤ 0) (q4 : -1 ≤ (g : Int) - ((i : Int) - a)) => arb_dead (ds := ds) (d := d) (g := g) (t := t) (n := n) (lo := lo) (hi := hi) (ks := ks) ha hs q1 q2 q3 q4)
 go_wp2_with (fail)
 go_loopw [11, 12] (fun ov iv wr => ∃ i : Nat, iv = .int .i64 i ∧ a ≤ i ∧ i ≤ s.size + 1 ∧ 0 ≤ (g : Int) - ((i : Int) - a) ∧ Hid (OwnD wr 36 2 ov [] (((List.range (i - a)).map fun k => TEnding.mk ((a + k : Nat) : Int) []).map TEnding.D)) ∧ Hid (∀ b, Blk ov [] b → wA.heap.size ≤ b) ∧ Hid (StI wr M A ds.length c s ((g : Int) - ((i : Int) - a))) ∧ OffS (fun b => b ≠ M) wA wr) (fun _ iv _ => s.size + 1 - (intOf iv).toNat)
 case atStart => exact ⟨a, rfl, by omega, by omega, by omega, hide (by rw [Nat.sub_self]; exact OwnD.lit0 wA _ 2), hide (fun b hb => hb.elim (fun h => by have := Option.some.inj (show some wA.heap.size = some b from h); omega) (fun h => by cases h)), hide (by rw [show (g : Int) - ((a : Int) - a) = g by omega]; exact StI.bel HSA.out bl), OffS.of_bel _ bl⟩
 case round => as_aux_lemma =>
  obtain ⟨i, rfl, hai, his, hgi, HO3, HB3, HS3, hof⟩ := hrel
  obtain ⟨A3, c3, hov3, hOD3, -⟩ := HO3.out.two
  subst hov3
  have hlen3 : (((List.range (i - a)).map fun k => TEnding.mk ((a + k : Nat) : Int) []).map TEnding.D).length = i - a := by simp
  rw [hlen3] at hOD3 HB3
  rw [hlen3]
  clear HO3
  have HO3 := hide hOD3
  clear hOD3
  have hzr := hof.size
  have hlr : w.heap.size < wr.heap.size := by omega
  have hMr : M < wr.heap.size := by omega
  have hnr : ¬ w.heap.size = wr.heap.size := by omega
  have hnMr : ¬ M = wr.heap.size := by omega
  have hxw := hof.same w.heap.size hne2 hlA
  have r_0 := (hxw.1 _).trans k0
  have r_1 := (hxw.1 _).trans k1
  have r_2 := (hxw.1 _).trans k2
  have r_3 := (hxw.1 _).trans k3
  have r_4 := (hxw.1 _).trans k4
  have r_5 := (hxw.1 _).trans k5
  clear hxw m0 m1 m2 m3
  obtain ⟨-, -, -, z1, -⟩ := HS3.out
  by_cases h1 : i ≤ s.size
  case neg => as_aux_lemma =>
   obtain rfl : i = s.size + 1 := by omega
   have hd : decide (((s.size + 1 : Nat) : Int) ≤ (s.size : Int)) = false := by simp; omega
   have hd2 : decide ((s.size : Int) + 1 ≤ (s.size : Int)) = false := by simp; omega
   go_wp2_with (fail)
   all_goals
    go_returns
    exact ⟨_, [], _, false, (g : Int) - ((s.size + 1 - a : Nat) : Int), rfl, (by rw [show (g : Int) - ((s.size + 1 - a : Nat) : Int) = (g : Int) - (((s.size + 1 : Nat) : Int) - a) by omega]; exact StI.bel HS3.out bl), OffS.trans HFA.out (OffS.bel hof bl), OwnD.bel HO3.out bl, fun b hb => by have := HB3.out b hb; omega, fun x hx => by obtain ⟨y, hy, rfl⟩ := List.mem_map.1 hx; simp only [TEnding.cs, List.length_nil]; omega, HE.out⟩
  case pos =>
  have hd : decide ((i : Int) ≤ (s.size : Int)) = true := by simp; omega
  have hInI : InI (i : Int) := by unfold InI; omega
  by_cases h5 : 0 < (g : Int) - ((i : Int) - a)
  case neg => as_aux_lemma =>
   have hd5 : decide (0 < (g : Int) - ((i : Int) - a)) = false := by simpa using h5
   have HEN := hide (HED.out i hai h1 (by omega) (by omega))
   go_wp2_with (go_at_call 50; refine (step_any _ M A ds.length c s ((g : Int) - ((i : Int) - a)) (StI.bel HS3.out bl) (by omega) (by omega)).mono ?_; rintro e w5 ⟨rfl, hst5, hoff5⟩; rw [hd5]; have hz5 := hoff5.size; have hl5 : w.heap.size < w5.heap.size := (by omega); have hM5 : M < w5.heap.size := (by omega); have hn5 : ¬ w.heap.size = w5.heap.size := (by omega); have hnM5 : ¬ M = w5.heap.size := (by omega); have HS5 := hide hst5; have HF5 := hide hoff5)
   all_goals
    go_returns
    exact ⟨_, [], [], false, (g : Int) - ((i : Int) - a) - 1, rfl, StI.bel HS5.out bl, OffS.trans HFA.out (OffS.trans hof (OffS.bel HF5.out bl)), OwnD.nil _ _ _, fun b hb => hb.elim (fun h => by cases h) (fun h => by cases h), (fun x hx => by cases hx), HEN.out⟩
  case pos =>
  have hd5 : decide (0 < (g : Int) - ((i : Int) - a)) = true := by simpa using h5
  go_upto_region 16 with (go_at_call 50; refine (step_any _ M A ds.length c s ((g : Int) - ((i : Int) - a)) (StI.bel HS3.out bl) (by omega) (by omega)).mono ?_; rintro e w5 ⟨rfl, hst5, hoff5⟩; rw [hd5]; have hz5 := hoff5.size; have hl5 : w.heap.size < w5.heap.size := (by omega); have hM5 : M < w5.heap.size := (by omega); have hn5 : ¬ w.heap.size = w5.heap.size := (by omega); have hnM5 : ¬ M = w5.heap.size := (by omega); have HS5 := hide hst5; have HF5 := hide hoff5)
  have hown6 := OwnD.lit1 (k := 2) w5 36 (TEnding.own_mk (x0 := (i : Int)) (x1 := []) hInI (OwnRow.nil _ 3 none 0 (by unfold maxLen; omega))) rfl List.nodup_nil
  obtain ⟨nw3, hsr3⟩ := hown6.src
  have HSR3 := hide hsr3
  clear hown6 hsr3
  obtain ⟨os3, hos3⟩ : ∃ l, ((List.range (i - a)).map fun k => TEnding.mk ((a + k : Nat) : Int) []) = l := ⟨_, rfl⟩
  rw [hos3] at hlen3 HO3
  have HOS3 := hide hos3
  clear hos3
  have HO5 := hide (OwnD.offS HO3.out HF5.out (fun b hb => by have := HB3.out b hb; omega))
  have HO6 := hide (OwnD.bel HO5.out (show Bel w5 (w5.alloc (.cells #[.int .i64 (i : Int), .slice none 0 0] 36)) from bl))
  go_wp2_with (at_builtin; refine wpList_append_D rfl (.tmp 64) (.tmp 67) 31 rfl 36 ie (.agg #[.int .i64 0, .slice none 0 0]) 2 32 Try.underlying31 hie ze0 ze1 ze2 (by decide) (by decide) HO6.out HSR3.out 1 rfl rfl ?c1 ?c2 ?c3 ?_)
  case c1 => exact fun b hb hm => by cases hm
  case c2 => rw [hlen3]; omega
  case c3 => rw [hlen3]; unfold maxLen; omega
  intro v7 w7 hO8 hg8 hw8
  have hO9 : OwnD w7 36 2 v7 [] (((List.range (i + 1 - a)).map fun k => TEnding.mk ((a + k : Nat) : Int) []).map TEnding.D) := by
   rw [show i + 1 - a = (i - a) + 1 by omega, List.range_succ, List.map_append, List.map_append, HOS3.out, List.map_cons, List.map_nil, List.map_cons, List.map_nil, show a + (i - a) = i by omega]
   simpa using hO8
  have HO9 := hide hO9
  clear hO8 hO9
  have hbz5 : Bel w5 (w5.alloc (.cells #[.int .i64 (i : Int), .slice none 0 0] 36)) := bl
  have hof7 : OffS (fun b => b ≠ M) wA w7 := OffS.via (OffS.trans hof (OffS.bel HF5.out hbz5)) (grown_offS hg8) (fun b hb hl h => by have := HB3.out b (Or.inl h); omega)
  have HS7 := hide (StI.offS (StI.bel HS5.out hbz5) (grown_offS hg8) (fun h => by have := HB3.out M (Or.inl h); omega))
  have HK9 := hide (show ∀ b, Blk v7 [] b → wA.heap.size ≤ b from fun b hb => hb.elim (fun q => (hw8 b q).elim (fun h => HB3.out b (Or.inl h)) (fun h => by (try simp at h); omega)) (fun q => by cases q))
  clear hg8 hw8
  go_wp2_with (fail)
  all_goals go_roundw
  case rel => exact ⟨i + 1, by go_num, by omega, by omega, by omega, hide (OwnD.bel HO9.out bl), hide HK9.out, hide (by rw [show (g : Int) - (((i + 1 : Nat) : Int) - a) = (g : Int) - ((i : Int) - a) - 1 by omega]; exact StI.bel HS7.out bl), OffS.bel hof7 bl⟩
  case measure => simp [intOf]; omega
end Go.Proofs.Ytdjbfneniohaaaa
