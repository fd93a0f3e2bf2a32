/- The walk of FnEndingsWithin. -/
import Derived.Test.YtdjbfneniohaaaaPPl
import Derived.Deep.RegionHeld3
namespace Go.Proofs.Ytdjbfneniohaaaa
set_option linter.unusedVariables false
set_option linter.unusedSimpArgs false
set_option maxRecDepth 100000
open Go.RowKit
set_option maxRecDepth 8000 in
set_option maxHeartbeats 4000000 in
theorem FnEndingsWithin_walk (A : Option Addr) (n cap : Nat) (w : World) (hB : ∀ c, w.heap.size ≤ c → n ≤ 1048576 → Bts w c A n) :
  Calls Try.prog 4 #[.slice A n cap] w fun e w' => e = .returned (.bool true) ∧ Bel w w' := by
 have HB := hide hB
 clear hB
 by_cases hn : n ≤ 1048576
 case neg =>
  have hd := hide (show decide ((1048576 : Int) < (n : Int)) = true by simp; omega)
  go_enter Try.func4, Try.ntmps4
  go_wp2_with (go_at_call 7; refine (lawBig_any A n cap _).mono ?_; rintro e w1 ⟨rfl, rfl⟩; rw [hd.out])
  all_goals
   go_returns
   exact ⟨rfl, bl⟩
 have hd := hide (show decide ((1048576 : Int) < (n : Int)) = false by simp; omega)
 go_enter Try.func4, Try.ntmps4
 go_upto_region 4 with (first
   | (go_at_call 7; refine (lawBig_any A n cap _).mono ?_; rintro e w1 ⟨rfl, rfl⟩; rw [hd.out])
   | (go_at_call 8; refine (drawEndingsOf_any A n cap _ hn (fun c h => HB.out c h hn)).mono ?_; rintro e w1 ⟨ds, v, vs, L, M, ⟨x0, x1, x2, x3, x4, x5⟩, s, a, rfl, hO, hown, -, -, hl, hcs, hcn, hs, ha1, ha2, hb1⟩; obtain ⟨Av, cv, rfl, hrow⟩ := hO.row (S := fun _ => True) (fun _ _ => trivial); rw [List.length_map]; obtain ⟨A5, c5, L5, rfl, rfl, g0, g1, g2, g3, g4, -⟩ := TPattern.vals_own hown; have HROW := hide hrow; have HVAL := hide (Dat.OwnVals.vals (S := fun _ => True) (fun _ _ => trivial) hown); have Hb1 := hide hb1; have HCS := hide (show ∀ (k : Nat) (h : k < ds.length), ds[k].cnt ≤ 2000000 from fun k h => by have := hcs _ (List.getElem_mem h); omega); have HCN := hide (show TPattern.cnt (TPattern.mk x0 x1 x2 x3 x4 x5) ≤ 2000000 by omega); have hcn9 := hide hcn; have HCS9 := hide hcs; clear hO hown hrow hb1 hcs hcn))
 refine wp_namedF fun w2 hw2 => ?_
 have D2 := hide (show DrE w w2 Av cv ds w1.heap.size x0 x1 x2 x3 x4 A5 c5 x5 from (by
  have hb12 : Bel w1 w2 := by rw [← hw2]; exact bl
  exact ⟨Hb1.out.trans hb12, HROW.out.bel hb12, HVAL.out.bel hb12, by rw [← hw2]; exact PB.new _ _⟩))
 clear hw2 HROW HVAL Hb1
 generalize w1.heap.size = b at D2 ⊢
 clear w1
 have pb := D2.out.box; obtain ⟨hl2, f2, k20, k21, k22, k23, k24, k25⟩ := pb
 have HS := hide (show s.size ≤ maxLen by unfold maxLen; omega)
 have HA := hide (show InI a by unfold InI; omega)
 obtain ⟨r, hr⟩ : ∃ r, endT ds (TPattern.mk x0 x1 x2 x3 x4 x5) s a = r := ⟨_, rfl⟩
 obtain ⟨es, st, ok⟩ := r
 have HE := hide hr
 have HG := hide (ends_good hr)
 have hln := leastR_in (p := (TPattern.mk x0 x1 x2 x3 x4 x5))
 clear hr
 have hok : (ok != ok) = false := by simp
 go_upto_region 9 with (first
   | (go_at_call 9; refine (implEnds_any ds (TPattern.mk x0 x1 x2 x3 x4 x5) s a _ _ _ _ _ _ D2.out.row D2.out.vals HS.out HA.out HCN.out HCS.out).mono ?_; rw [HE.out]; intro e w3 hm; obtain ⟨B3, d3, rfl, hr3, hb3⟩ := hm.row; clear hm; have D3 := hide (D2.out.on hb3); have HR3 := hide hr3; have pb := D3.out.box; obtain ⟨hl3, f3, k30, k31, k32, k33, k34, k35⟩ := pb; clear hr3 hb3)
   | (go_at_call 10; refine (specEnds_any ds (TPattern.mk x0 x1 x2 x3 x4 x5) s a _ _ _ _ _ _ D3.out.row D3.out.vals HS.out HA.out HCN.out HCS.out).mono ?_; rw [HE.out]; intro e w4 hm; obtain ⟨B4, d4, rfl, hr4, hb4⟩ := hm.row; clear hm; have D4 := hide (D3.out.on hb4); have HR4 := hide hr4; have pb := D4.out.box; obtain ⟨hl4, f4, k40, k41, k42, k43, k44, k45⟩ := pb; have HB34 := hide hb4; clear hr4 hb4)
   | (go_at_call 12; refine (implLeastLength_cnt _ _ _ _ D4.out.vals HCN.out).mono ?_; rintro e w5 ⟨rfl, hb5⟩; have D5 := hide (D4.out.on hb5); have HR5 := hide (Row.bel (hide hb5).out (Row.bel HB34.out HR3.out)); clear hb5))
 generalize leastR (TPattern.mk x0 x1 x2 x3 x4 x5) = least at HG hln ⊢
 obtain ⟨hln1, hln2⟩ := hln
 have hwl : IntKind.i64.wrap (a + least) = a + least := by rw [IntKind.wrap_i64]; omega
 go_wp2_with (fail)
 go_loopw [14] (fun iv wr => ∃ i : Nat, iv = .int .i64 i ∧ i ≤ es.length ∧ Hid (Bel w5 wr)) (fun iv _ => es.length - (intOf iv).toNat)
 case atStart => exact ⟨0, rfl, Nat.zero_le _, hide (Bel.refl _)⟩
 case round =>
  obtain ⟨i, rfl, hi, HBR⟩ := hrel
  have hrl := HR5.out.1
  have hrm := HR5.out.2.1
  simp only [List.length_map] at hrl
  unfold maxLen at hrm
  by_cases h : i < es.length
  ·
   skip
   have hdc : decide ((i : Int) < (es.length : Int)) = true := by simp; omega
   obtain ⟨wo, rfl⟩ : ∃ wo, wo = wr := ⟨_, rfl⟩
   have hbwr := HBR.out
   (obtain ⟨b1, o1, x1_0, x1_1, A1_1, C1_1, hA1, hS1, hl1, hx1, hv1, g1_0, g1_1, c1_0, c1_1⟩ := TEnding.at HR5.out i h; subst hA1; have HV1 := hide (Dat.HoldVals.bel hbwr hv1); have hh1 := hbwr.box b1 hl1; have hw1 := Nat.lt_of_lt_of_le hl1 (Bel.size hbwr); replace c1_0 := (hh1 _).trans c1_0; replace c1_1 := (hh1 _).trans c1_1; have HX1 := hide hx1; have GR1_1 := hide g1_1; clear hh1 hv1 hx1 hS1 g1_1)
   obtain ⟨K, e1, e2, e3, e4⟩ := HG.out i h
   have hx1 := HX1.out
   rw [hx1] at e1 e4
   simp only [TEnding.pos, TEnding.cs] at e1 e4
   have HG4 := hide e4
   clear e4 hx1
   subst e1
   have hd1 : decide ((s.size : Int) < (K : Int)) = false := by simp; omega
   have hd2 : decide ((K : Int) < a + least) = false := by simp; omega
   go_wp2_with (fail)
   go_loopw [16] (fun kv wq => ∃ k : Nat, kv = .int .i64 k ∧ k ≤ x1_1.length ∧ Hid (Bel (wo.alloc (.cells #[.int .i64 K, .slice A1_1 x1_1.length C1_1] 36)) wq)) (fun kv _ => x1_1.length - (intOf kv).toNat)
   case atStart => exact ⟨0, rfl, Nat.zero_le _, hide (Bel.refl _)⟩
   case round =>
    obtain ⟨k, rfl, hk, HBQ⟩ := hrel
    have hbq : Bel wo _ := Bel.trans (Bel.alloc (Bel.refl wo) _) HBQ.out
    have y0 := (HBQ.out.box wo.heap.size (by simp) 0)
    have y1 := (HBQ.out.box wo.heap.size (by simp) 1)
    have hq1 := HBQ.out.size
    rw [World.size_alloc] at hq1
    simp [go_sem] at y0 y1
    have hlo : wo.heap.size < wr.heap.size := by omega
    have hno : ¬ wo.heap.size = wr.heap.size := by omega
    have hql := GR1_1.out.1
    have hqm := GR1_1.out.2.1
    simp only [List.length_map] at hql
    unfold maxLen at hqm
    by_cases hkk : k < x1_1.length
    ·
     skip
     have hdk : decide ((k : Int) < (x1_1.length : Int)) = true := by simp; omega
     have hbw2 := Bel.trans hbwr hbq
     (obtain ⟨b2, o2, x2_0, x2_1, x2_2, hA2, hS2, hl2, hx2, hv2, g2_0, g2_1, g2_2, c2_0, c2_1, c2_2⟩ := TCapture.at GR1_1.out k hkk; subst hA2; have HV2 := hide (Dat.HoldVals.bel hbw2 hv2); have hh2 := hbw2.box b2 hl2; have hw2 := Nat.lt_of_lt_of_le hl2 (Bel.size hbw2); replace c2_0 := (hh2 _).trans c2_0; replace c2_1 := (hh2 _).trans c2_1; replace c2_2 := (hh2 _).trans c2_2; have HX2 := hide hx2; clear hh2 hv2 hx2 hS2)
     obtain ⟨q1, q2, q3, q4⟩ := HG4.out k hkk
     have hx2 := HX2.out
     rw [hx2] at q1 q2 q3 q4
     simp only [TCapture.fr, TCapture.to, TCapture.var] at q1 q2 q3 q4
     clear hx2
     have hd3 : decide (x2_1 < a) = false := by simp; omega
     have hd4 : decide (x2_2 < x2_1) = false := by simp; omega
     have hd5 : decide ((K : Int) < x2_2) = false := by simp; omega
     have hd6 : decide ((ds.length : Int) ≤ x2_0) = false := by simp; omega
     go_wp2_with (fail)
     all_goals go_roundw
     case rel => exact ⟨k + 1, by go_num, by omega, hide (Bel.trans HBQ.out bl)⟩
     case measure => simp [intOf]; omega
    ·
     skip
     have hdk : decide ((k : Int) < (x1_1.length : Int)) = false := by simp; omega
     go_wp2_with (fail)
     all_goals go_roundw
     case rel => exact ⟨i + 1, by go_num, by omega, hide (Bel.trans HBR.out (Bel.trans hbq bl))⟩
     case measure => simp [intOf]; omega
  ·
   skip
   have hdc : decide ((i : Int) < (es.length : Int)) = false := by simp; omega
   go_wp2_with (fail)
   all_goals
    go_returns
    exact ⟨rfl, Bel.trans D5.out.bel (Bel.trans HBR.out bl)⟩
end Go.Proofs.Ytdjbfneniohaaaa
