/- Valid programs: the program. -/
import Derived.Test.YtgofbnmablgedaaGreatDoorPV6
import Derived.Test.YtgofbnmablgedaaGreatDoorPV5
import Derived.Deep.RegionHeld3
import Derived.Deep.Cut
import Derived.Deep.CutBlock
import Derived.OwnWalk
namespace Go.Proofs.YtgofbnmablgedaaGreatDoor
set_option linter.unusedVariables false
set_option linter.unusedSimpArgs false
set_option maxRecDepth 100000
open Go.RowKit
set_option maxHeartbeats 8000000 in
theorem implProg_any (t : TProgram) : ProgC 22 t := by
 intro S w vs htab hv hwt
 obtain ⟨x0, x1, x2, mn⟩ := t
 have HT := hide htab
 rw [TProgram.D_mk] at hwt
 simp only [Dat.wtL, Dat.wt, List.length_map] at hwt
 obtain ⟨A0, c0, A1, c1, A2, c2, rfl, g0, g1, g2, gm⟩ := TProgram.vals hv
 have HR0 := hide g0
 have hlc0 := g0.1
 have hcm0 := g0.2.1
 simp only [List.length_map] at hlc0
 unfold maxLen at hcm0
 have HR1 := hide g1
 have hlc1 := g1.1
 have hcm1 := g1.2.1
 simp only [List.length_map] at hlc1
 unfold maxLen at hcm1
 have HR2 := hide g2
 have hlc2 := g2.1
 have hcm2 := g2.2.1
 simp only [List.length_map] at hlc2
 unfold maxLen at hcm2
 have HWR := hide (fun (m : Nat) (h : m < x0.length) => rt_wt h (b := 1048576) (by omega))
 have hn0 : x0.length ≤ 1048576 := by omega
 have hn1 : x1.length ≤ 1048576 := by omega
 have hn2 : x2.length ≤ 1048576 := by omega
 clear hwt hv g0 g1 g2 htab
 obtain ⟨bA, hbA⟩ : ∃ bA, headP x0 x1 x2 mn = bA := ⟨_, rfl⟩
 have HA := hide hbA
 clear hbA
 obtain ⟨bA2, hbA2⟩ : ∃ bA2, (bA && x1.all recB) = bA2 := ⟨_, rfl⟩
 have HA2 := hide hbA2
 clear hbA2
 go_enter Tryz.func22, Tryz.ntmps22
 go_upto_region 1 with (fail)
 go_cut [57] from 7 (fun v wx => v = .bool (!bA2) ∧ Bel (w.alloc (.cells #[.slice A0 x0.length c0, .slice A1 x1.length c1, .slice A2 x2.length c2, .int .i64 mn] 38)) wx)
 case first => as_aux_lemma =>
  by_cases c1 : 1 ≤ x0.length
  case neg => as_aux_lemma =>
   have c1f : decide ((x0.length : Int) < 1) = true := by simp; omega
   obtain rfl : false = bA := by rw [← HA.out]; unfold headP; rw [decide_eq_false c1]; simp
   obtain rfl : false = bA2 := by rw [← HA2.out]; rfl
   clear c1
   go_wp2_with (fail)
   all_goals go_meet
   all_goals exact ⟨rfl, bl⟩
  case pos =>
  have c1f : decide ((x0.length : Int) < 1) = false := by simp; omega
  by_cases c2 : x0.length ≤ 12
  case neg => as_aux_lemma =>
   have c2f : decide ((12 : Int) < (x0.length : Int)) = true := by simp; omega
   obtain rfl : false = bA := by rw [← HA.out]; unfold headP; rw [decide_eq_false c2]; simp
   obtain rfl : false = bA2 := by rw [← HA2.out]; rfl
   clear c2
   go_wp2_with (fail)
   all_goals go_meet
   all_goals exact ⟨rfl, bl⟩
  case pos =>
  have c2f : decide ((12 : Int) < (x0.length : Int)) = false := by simp; omega
  by_cases c4 : x2.length ≤ 12
  case neg => as_aux_lemma =>
   have c4f : decide ((12 : Int) < (x2.length : Int)) = true := by simp; omega
   obtain rfl : false = bA := by rw [← HA.out]; unfold headP; rw [decide_eq_false c4]; simp
   obtain rfl : false = bA2 := by rw [← HA2.out]; rfl
   clear c4
   go_wp2_with (fail)
   all_goals go_meet
   all_goals exact ⟨rfl, bl⟩
  case pos =>
  have c4f : decide ((12 : Int) < (x2.length : Int)) = false := by simp; omega
  cases hvr : (x1.all recB && decide (x1.length ≤ 8))
  case false => as_aux_lemma =>
   have HVR := hide hvr
   obtain rfl : false = bA2 := by
    rw [← HA2.out, ← HA.out]; rw [Bool.and_eq_false_iff] at hvr; rcases hvr with h | h
    ·
     rw [h]; simp
    ·
     unfold headP; rw [h]; simp
   clear hvr
   go_wp2_with (go_at_call 50; refine (validRecords_row x1 S _ _ _ (Row.bel bl HR1.out) (HT.out.on bl)).mono ?_; rintro e w7 ⟨rfl, hb7⟩; rw [HVR.out]; (have hz7 := hb7.sz; obtain ⟨hk7_0, hf7_0, hl7_0, hn7_0⟩ := hb7.lay (w.heap.size)))
   all_goals go_meet
   all_goals exact ⟨rfl, bl⟩
  case true =>
  have HVR := hide hvr
  rw [Bool.and_eq_true, decide_eq_true_eq] at hvr
  have HRC := hide hvr.1
  have c3 : x1.length ≤ 8 := hvr.2
  clear hvr
  cases hnm : x2.all nameB
  case false => as_aux_lemma =>
   have HNM := hide hnm
   obtain rfl : false = bA := by rw [← HA.out]; unfold headP; rw [hnm]; simp
   obtain rfl : false = bA2 := by rw [← HA2.out]; rfl
   clear hnm
   go_wp2_with (first | (go_at_call 50; refine (validRecords_row x1 S _ _ _ (Row.bel bl HR1.out) (HT.out.on bl)).mono ?_; rintro e w7 ⟨rfl, hb7⟩; rw [HVR.out]; (have hz7 := hb7.sz; obtain ⟨hk7_0, hf7_0, hl7_0, hn7_0⟩ := hb7.lay (w.heap.size))) | (go_at_call 51; refine (allNames_row x2 S _ _ _ (Row.bel bl HR2.out) (HT.out.on bl)).mono ?_; rintro e w8 ⟨rfl, hb8⟩; rw [HNM.out]; (have hz8 := hb8.sz; obtain ⟨hk8_0, hf8_0, hl8_0, hn8_0⟩ := hb8.lay (w.heap.size))))
   all_goals go_meet
   all_goals exact ⟨rfl, bl⟩
  case true =>
  have HNM := hide hnm
  clear hnm
  by_cases hm0 : 0 ≤ mn
  case neg => as_aux_lemma =>
   have dm : decide (mn < 0) = true := by simp; omega
   obtain rfl : false = bA := by rw [← HA.out]; unfold headP; rw [main_out (fun q => hm0 q.1)]; simp
   obtain rfl : false = bA2 := by rw [← HA2.out]; rfl
   clear hm0
   go_wp2_with (first | (go_at_call 50; refine (validRecords_row x1 S _ _ _ (Row.bel bl HR1.out) (HT.out.on bl)).mono ?_; rintro e w7 ⟨rfl, hb7⟩; rw [HVR.out]; (have hz7 := hb7.sz; obtain ⟨hk7_0, hf7_0, hl7_0, hn7_0⟩ := hb7.lay (w.heap.size))) | (go_at_call 51; refine (allNames_row x2 S _ _ _ (Row.bel bl HR2.out) (HT.out.on bl)).mono ?_; rintro e w8 ⟨rfl, hb8⟩; rw [HNM.out]; (have hz8 := hb8.sz; obtain ⟨hk8_0, hf8_0, hl8_0, hn8_0⟩ := hb8.lay (w.heap.size))))
   all_goals go_meet
   all_goals exact ⟨rfl, bl⟩
  case pos =>
  have dm0 : decide (mn < 0) = false := by simp; omega
  by_cases hm1 : mn < (x0.length : Int)
  case neg => as_aux_lemma =>
   have dm : decide ((x0.length : Int) ≤ mn) = true := by simp; omega
   obtain rfl : false = bA := by rw [← HA.out]; unfold headP; rw [main_out (fun q => hm1 q.2)]; simp
   obtain rfl : false = bA2 := by rw [← HA2.out]; rfl
   clear hm0 hm1
   go_wp2_with (first | (go_at_call 50; refine (validRecords_row x1 S _ _ _ (Row.bel bl HR1.out) (HT.out.on bl)).mono ?_; rintro e w7 ⟨rfl, hb7⟩; rw [HVR.out]; (have hz7 := hb7.sz; obtain ⟨hk7_0, hf7_0, hl7_0, hn7_0⟩ := hb7.lay (w.heap.size))) | (go_at_call 51; refine (allNames_row x2 S _ _ _ (Row.bel bl HR2.out) (HT.out.on bl)).mono ?_; rintro e w8 ⟨rfl, hb8⟩; rw [HNM.out]; (have hz8 := hb8.sz; obtain ⟨hk8_0, hf8_0, hl8_0, hn8_0⟩ := hb8.lay (w.heap.size))))
   all_goals go_meet
   all_goals exact ⟨rfl, bl⟩
  case pos =>
  have dm1 : decide ((x0.length : Int) ≤ mn) = false := by simp; omega
  have hmn : 0 ≤ mn ∧ mn < (x0.length : Int) := ⟨hm0, hm1⟩
  clear hm0 hm1
  obtain ⟨q, rfl⟩ := Int.eq_ofNat_of_zero_le hmn.1
  have hq : q < x0.length := by omega
  have dm1n : decide (x0.length ≤ q) = false := by simp; omega
  have hbw : Bel w w := Bel.refl w
  (obtain ⟨b1, o1, x1_0, x1_1, x1_2, x1_3, x1_4, x1_5, x1_6, x1_7, x1_8, A1_2, C1_2, A1_8, C1_8, hA1, hS1, hl1, hx1, hv1, g1_0, g1_1, g1_2, g1_3, g1_4, g1_5, g1_6, g1_7, g1_8, c1_0, c1_1, c1_2, c1_3, c1_4, c1_5, c1_6, c1_7, c1_8⟩ := TRoutine.at HR0.out q hq; subst hA1; have HV1 := hide (Dat.HoldVals.bel hbw hv1); have hh1 := hbw.box b1 hl1; have hw1 := Nat.lt_of_lt_of_le hl1 (Bel.size hbw); replace c1_0 := (hh1 _).trans c1_0; replace c1_1 := (hh1 _).trans c1_1; replace c1_2 := (hh1 _).trans c1_2; replace c1_3 := (hh1 _).trans c1_3; replace c1_4 := (hh1 _).trans c1_4; replace c1_5 := (hh1 _).trans c1_5; replace c1_6 := (hh1 _).trans c1_6; replace c1_7 := (hh1 _).trans c1_7; replace c1_8 := (hh1 _).trans c1_8; have HX1 := hide hx1; have GR1_2 := hide g1_2; have GR1_8 := hide g1_8; clear hh1 hv1 hx1 hS1 g1_2 g1_8)
  have hne1 : ¬ b1 = w.heap.size := by omega
  have HPR := hide (show x0[q].par = x1_1 by rw [HX1.out]; rfl)
  by_cases hp0 : x1_1 = 0
  case neg => as_aux_lemma =>
   have dp : (x1_1 != 0) = true := by simp; exact hp0
   obtain rfl : false = bA := by rw [← HA.out]; unfold headP; rw [main_no hq (by rw [HPR.out]; exact hp0)]; simp
   obtain rfl : false = bA2 := by rw [← HA2.out]; rfl
   clear hp0
   go_wp2_with (first | (go_at_call 50; refine (validRecords_row x1 S _ _ _ (Row.bel bl HR1.out) (HT.out.on bl)).mono ?_; rintro e w7 ⟨rfl, hb7⟩; rw [HVR.out]; (have hz7 := hb7.sz; obtain ⟨hk7_0, hf7_0, hl7_0, hn7_0⟩ := hb7.lay (w.heap.size); obtain ⟨hk7_1, hf7_1, hl7_1, hn7_1⟩ := hb7.lay (b1))) | (go_at_call 51; refine (allNames_row x2 S _ _ _ (Row.bel bl HR2.out) (HT.out.on bl)).mono ?_; rintro e w8 ⟨rfl, hb8⟩; rw [HNM.out]; (have hz8 := hb8.sz; obtain ⟨hk8_0, hf8_0, hl8_0, hn8_0⟩ := hb8.lay (w.heap.size); obtain ⟨hk8_1, hf8_1, hl8_1, hn8_1⟩ := hb8.lay (b1))))
   all_goals go_meet
   all_goals exact ⟨rfl, bl⟩
  case pos =>
  have dp : (x1_1 != 0) = false := by simp; exact hp0
  obtain rfl : true = bA := by rw [← HA.out]; unfold headP; rw [decide_eq_true c1, decide_eq_true c2, decide_eq_true c3, HNM.out, decide_eq_true c4, main_yes hq (by rw [HPR.out]; exact hp0)]; rfl
  obtain rfl : true = bA2 := by rw [← HA2.out, HRC.out]; rfl
  clear hp0
  go_wp2_with (first | (go_at_call 50; refine (validRecords_row x1 S _ _ _ (Row.bel bl HR1.out) (HT.out.on bl)).mono ?_; rintro e w7 ⟨rfl, hb7⟩; rw [HVR.out]; (have hz7 := hb7.sz; obtain ⟨hk7_0, hf7_0, hl7_0, hn7_0⟩ := hb7.lay (w.heap.size); obtain ⟨hk7_1, hf7_1, hl7_1, hn7_1⟩ := hb7.lay (b1))) | (go_at_call 51; refine (allNames_row x2 S _ _ _ (Row.bel bl HR2.out) (HT.out.on bl)).mono ?_; rintro e w8 ⟨rfl, hb8⟩; rw [HNM.out]; (have hz8 := hb8.sz; obtain ⟨hk8_0, hf8_0, hl8_0, hn8_0⟩ := hb8.lay (w.heap.size); obtain ⟨hk8_1, hf8_1, hl8_1, hn8_1⟩ := hb8.lay (b1))))
  all_goals go_meet
  all_goals exact ⟨rfl, bl⟩
 case rest =>
 obtain ⟨rfl, hbc⟩ := hcut
 have hz0 := hbc.size
 simp only [World.size_alloc] at hz0
 have y0 := hbc.box w.heap.size (by simp)
 have hl0 : w.heap.size < wc.heap.size := by omega
 have hq0 : ¬ w.heap.size = wc.heap.size := by omega
 cases bA2
 case false => as_aux_lemma =>
  have RR := hide (show progB (TProgram.mk x0 x1 x2 mn) = false by
   have h := HA2.out
   rw [Bool.and_eq_false_iff] at h
   rcases h with h | h
   ·
    exact prog_head (HA.out.trans h)
   ·
    exact prog_recs (by rw [h]; rfl))
  go_wp2_with (fail)
  all_goals
   go_returns
   exact ⟨ret_bl RR.out.symm, bl⟩
 case true =>
 have hA0 := HA2.out
 rw [Bool.and_eq_true] at hA0
 obtain ⟨rfl, hrc⟩ := hA0
 have HRC := hide hrc
 clear hrc
 have hA2 := HA.out
 unfold headP at hA2
 simp only [Bool.and_eq_true, decide_eq_true_eq] at hA2
 have h12 : x0.length ≤ 12 := hA2.1.1.1.1.2
 have h8 : x1.length ≤ 8 := hA2.1.1.1.2
 have hg12 : x2.length ≤ 12 := hA2.1.2
 clear hA2
 have HP_rec := hide (fun j (hj : j < x1.length) => List.all_eq_true.1 HRC.out _ (List.getElem_mem hj))
 simp only [Bool.not_true]
 go_wp2_with (fail)
 have HWC2 := hide hbc
 clear hz0 y0 hl0 hq0
 go_loopw [3, 61] (fun nv iv wr => ∃ m : Nat, iv = .int .i64 m ∧ nv = .int .i64 ((cntR (x0.take m) : Nat)) ∧ m ≤ x0.length ∧ Hid (∀ j (hj : j < x0.length), j < m → rtB (x2.length : Int) (x0.length : Int) (x1.length : Int) x0[j] = true) ∧ Bel (w.alloc (.cells #[.slice A0 x0.length c0, .slice A1 x1.length c1, .slice A2 x2.length c2, .int .i64 mn] 38)) wr) (fun _ iv _ => x0.length - (intOf iv).toNat)
 case atStart => exact ⟨0, rfl, by simp [cntR], by omega, fun j _ hj => by omega, HWC2.out⟩
 case round => as_aux_lemma =>
  obtain ⟨m, rfl, rfl, m1, hm, hbx⟩ := hrel
  have hz0 := hbx.size
  simp only [World.size_alloc] at hz0
  have y0 := hbx.box w.heap.size (by simp)
  have hl0 : w.heap.size < wr.heap.size := by omega
  have hq0 : ¬ w.heap.size = wr.heap.size := by omega
  have hbw : Bel w wr := bl
  have e0 : wr.cell? ⟨w.heap.size, 0, none⟩ = some (.slice A0 x0.length c0) := (y0 0).trans (by simp)
  have e1 : wr.cell? ⟨w.heap.size, 1, none⟩ = some (.slice A1 x1.length c1) := (y0 1).trans (by simp)
  have e2 : wr.cell? ⟨w.heap.size, 2, none⟩ = some (.slice A2 x2.length c2) := (y0 2).trans (by simp)
  have e3 : wr.cell? ⟨w.heap.size, 3, none⟩ = some (.int .i64 mn) := (y0 3).trans (by simp)
  clear y0
  by_cases h1 : m < x0.length
  case pos => as_aux_lemma =>
   have hd : decide ((m : Int) < (x0.length : Int)) = true := by simp [h1]
   (obtain ⟨b1, o1, x1_0, x1_1, x1_2, x1_3, x1_4, x1_5, x1_6, x1_7, x1_8, A1_2, C1_2, A1_8, C1_8, hA1, hS1, hl1, hx1, hv1, g1_0, g1_1, g1_2, g1_3, g1_4, g1_5, g1_6, g1_7, g1_8, c1_0, c1_1, c1_2, c1_3, c1_4, c1_5, c1_6, c1_7, c1_8⟩ := TRoutine.at HR0.out m h1; subst hA1; have HV1 := hide (Dat.HoldVals.bel hbw hv1); have hh1 := hbw.box b1 hl1; have hw1 := Nat.lt_of_lt_of_le hl1 (Bel.size hbw); replace c1_0 := (hh1 _).trans c1_0; replace c1_1 := (hh1 _).trans c1_1; replace c1_2 := (hh1 _).trans c1_2; replace c1_3 := (hh1 _).trans c1_3; replace c1_4 := (hh1 _).trans c1_4; replace c1_5 := (hh1 _).trans c1_5; replace c1_6 := (hh1 _).trans c1_6; replace c1_7 := (hh1 _).trans c1_7; replace c1_8 := (hh1 _).trans c1_8; have HX1 := hide hx1; have GR1_2 := hide g1_2; have GR1_8 := hide g1_8; clear hh1 hv1 hx1 hS1 g1_2 g1_8)
   have hne1 : ¬ b1 = wr.heap.size := by omega
   have hb1r : b1 < wr.heap.size := by omega
   have HBD := hide (show x0[m].body = (TCore.mk x1_3 x1_4 x1_5 x1_6 x1_7 x1_8) by rw [HX1.out]; rfl)
   have HCN := hide (show (TCore.mk x1_3 x1_4 x1_5 x1_6 x1_7 x1_8).cnt ≤ 1048577 by rw [← HBD.out]; exact HWR.out m h1)
   have HRT := hide (show rtB (x2.length : Int) (x0.length : Int) (x1.length : Int) x0[m] = (nameB x1_0 && decide (x1_2.length ≤ 24) && decide (0 ≤ x1_1) && decide (x1_1 ≤ (x1_2.length : Int)) && !(x1_2.any badS) && decide ((TCore.mk x1_3 x1_4 x1_5 x1_6 x1_7 x1_8).dep ≤ 400) && (TCore.mk x1_3 x1_4 x1_5 x1_6 x1_7 x1_8).vld (x1_2.length : Int) (x2.length : Int) (x0.length : Int) (x1.length : Int) false false) by rw [HX1.out]; rfl)
   have HVB := hide (TCore.vals_mk g1_3 g1_4 g1_5 g1_6 g1_7 GR1_8.out)
   have HS7 := hide g1_7
   have hs2 := GR1_2.out.1
   have hs2m := GR1_2.out.2.1
   simp only [List.length_map] at hs2
   unfold maxLen at hs2m g1_0
   clear g1_7
   have HCT := hide (cntR_take x0 m h1)
   have hcb : cntR (x0.take m) ≤ 12582924 := cntR_twelve x0 m (fun k hk => HWR.out k hk) h12
   cases hnb : nameB x1_0
   case false => as_aux_lemma =>
    have HNB := hide hnb
    have RR := hide (prog_rt (R := x0) (C := x1) (G := x2) (mn := mn) m h1 (by rw [HRT.out, hnb]; simp))
    clear hnb
    go_wp2_with (go_at_call 52; refine (implIsName_any x1_0 _ (HT.out.on bl)).mono ?_; rintro e wa ⟨rfl, hba⟩; rw [HNB.out]; (have hza := hba.sz; obtain ⟨hka_0, hfa_0, hla_0, hna_0⟩ := hba.lay (w.heap.size); obtain ⟨hka_1, hfa_1, hla_1, hna_1⟩ := hba.lay (wr.heap.size); obtain ⟨hka_2, hfa_2, hla_2, hna_2⟩ := hba.lay (b1)))
    all_goals
     go_returns
     exact ⟨ret_bl RR.out.symm, bl⟩
   case true =>
   have HNB := hide hnb
   clear hnb
   by_cases h24 : x1_2.length ≤ 24
   case neg => as_aux_lemma =>
    have d24 : decide ((24 : Int) < (x1_2.length : Int)) = true := by simp; omega
    have RR := hide (prog_rt (R := x0) (C := x1) (G := x2) (mn := mn) m h1 (by rw [HRT.out, decide_eq_false h24]; simp))
    go_wp2_with (go_at_call 52; refine (implIsName_any x1_0 _ (HT.out.on bl)).mono ?_; rintro e wa ⟨rfl, hba⟩; rw [HNB.out]; (have hza := hba.sz; obtain ⟨hka_0, hfa_0, hla_0, hna_0⟩ := hba.lay (w.heap.size); obtain ⟨hka_1, hfa_1, hla_1, hna_1⟩ := hba.lay (wr.heap.size); obtain ⟨hka_2, hfa_2, hla_2, hna_2⟩ := hba.lay (b1)))
    all_goals
     go_returns
     exact ⟨ret_bl RR.out.symm, bl⟩
   case pos =>
   have d24 : decide ((24 : Int) < (x1_2.length : Int)) = false := by simp; omega
   by_cases hp1 : 0 ≤ x1_1
   case neg => as_aux_lemma =>
    have dp1 : decide (x1_1 < 0) = true := by simp; omega
    have RR := hide (prog_rt (R := x0) (C := x1) (G := x2) (mn := mn) m h1 (by rw [HRT.out, decide_eq_false hp1]; simp))
    go_wp2_with (go_at_call 52; refine (implIsName_any x1_0 _ (HT.out.on bl)).mono ?_; rintro e wa ⟨rfl, hba⟩; rw [HNB.out]; (have hza := hba.sz; obtain ⟨hka_0, hfa_0, hla_0, hna_0⟩ := hba.lay (w.heap.size); obtain ⟨hka_1, hfa_1, hla_1, hna_1⟩ := hba.lay (wr.heap.size); obtain ⟨hka_2, hfa_2, hla_2, hna_2⟩ := hba.lay (b1)))
    all_goals
     go_returns
     exact ⟨ret_bl RR.out.symm, bl⟩
   case pos =>
   have dp1 : decide (x1_1 < 0) = false := by simp; omega
   by_cases hp2 : x1_1 ≤ (x1_2.length : Int)
   case neg => as_aux_lemma =>
    have dp2 : decide ((x1_2.length : Int) < x1_1) = true := by simp; omega
    have RR := hide (prog_rt (R := x0) (C := x1) (G := x2) (mn := mn) m h1 (by rw [HRT.out, decide_eq_false hp2]; simp))
    go_wp2_with (go_at_call 52; refine (implIsName_any x1_0 _ (HT.out.on bl)).mono ?_; rintro e wa ⟨rfl, hba⟩; rw [HNB.out]; (have hza := hba.sz; obtain ⟨hka_0, hfa_0, hla_0, hna_0⟩ := hba.lay (w.heap.size); obtain ⟨hka_1, hfa_1, hla_1, hna_1⟩ := hba.lay (wr.heap.size); obtain ⟨hka_2, hfa_2, hla_2, hna_2⟩ := hba.lay (b1)))
    all_goals
     go_returns
     exact ⟨ret_bl RR.out.symm, bl⟩
   case pos =>
   have dp2 : decide ((x1_2.length : Int) < x1_1) = false := by simp; omega
   cases hno : x1_2.any badS
   case true => as_aux_lemma =>
    have HNO := hide hno
    have RR := hide (prog_rt (R := x0) (C := x1) (G := x2) (mn := mn) m h1 (by rw [HRT.out, hno]; simp))
    clear hno
    go_wp2_with (first | (go_at_call 52; refine (implIsName_any x1_0 _ (HT.out.on bl)).mono ?_; rintro e wa ⟨rfl, hba⟩; rw [HNB.out]; (have hza := hba.sz; obtain ⟨hka_0, hfa_0, hla_0, hna_0⟩ := hba.lay (w.heap.size); obtain ⟨hka_1, hfa_1, hla_1, hna_1⟩ := hba.lay (wr.heap.size); obtain ⟨hka_2, hfa_2, hla_2, hna_2⟩ := hba.lay (b1))) | (go_at_call 53; refine (containsFn_any x1_2 S _ _ _ (Row.bel bl GR1_2.out) (HT.out.on bl)).mono ?_; rintro e wb ⟨rfl, hbb⟩; rw [HNO.out]; (have hzb := hbb.sz; obtain ⟨hkb_0, hfb_0, hlb_0, hnb_0⟩ := hbb.lay (w.heap.size); obtain ⟨hkb_1, hfb_1, hlb_1, hnb_1⟩ := hbb.lay (wr.heap.size); obtain ⟨hkb_2, hfb_2, hlb_2, hnb_2⟩ := hbb.lay (b1))))
    all_goals
     go_returns
     exact ⟨ret_bl RR.out.symm, bl⟩
   case false =>
   have HNO := hide hno
   clear hno
   have hcn := HCN.out
   have HCT2 := hide (HCT.out.trans (by rw [HBD.out]))
   by_cases hdp : (TCore.mk x1_3 x1_4 x1_5 x1_6 x1_7 x1_8).dep ≤ 400
   case neg => as_aux_lemma =>
    have ddp : decide ((400 : Int) < ((TCore.mk x1_3 x1_4 x1_5 x1_6 x1_7 x1_8).dep : Int)) = true := by simp; omega
    have ddpn : decide (400 < (TCore.mk x1_3 x1_4 x1_5 x1_6 x1_7 x1_8).dep) = true := by simp; omega
    have RR := hide (prog_rt (R := x0) (C := x1) (G := x2) (mn := mn) m h1 (by rw [HRT.out, decide_eq_false hdp]; simp))
    go_wp2_with (first | (go_at_call 52; refine (implIsName_any x1_0 _ (HT.out.on bl)).mono ?_; rintro e wa ⟨rfl, hba⟩; rw [HNB.out]; (have hza := hba.sz; obtain ⟨hka_0, hfa_0, hla_0, hna_0⟩ := hba.lay (w.heap.size); obtain ⟨hka_1, hfa_1, hla_1, hna_1⟩ := hba.lay (wr.heap.size); obtain ⟨hka_2, hfa_2, hla_2, hna_2⟩ := hba.lay (b1))) | (go_at_call 53; refine (containsFn_any x1_2 S _ _ _ (Row.bel bl GR1_2.out) (HT.out.on bl)).mono ?_; rintro e wb ⟨rfl, hbb⟩; rw [HNO.out]; (have hzb := hbb.sz; obtain ⟨hkb_0, hfb_0, hlb_0, hnb_0⟩ := hbb.lay (w.heap.size); obtain ⟨hkb_1, hfb_1, hlb_1, hnb_1⟩ := hbb.lay (wr.heap.size); obtain ⟨hkb_2, hfb_2, hlb_2, hnb_2⟩ := hbb.lay (b1))) | (go_at_call 55; refine (implCountCore_any (TCore.mk x1_3 x1_4 x1_5 x1_6 x1_7 x1_8) S _ _ (Dat.HoldVals.bel bl HVB.out) (by have := HCN.out; omega)).mono ?_; rintro e w6 ⟨rfl, hb6⟩; (have hz6 := hb6.sz; obtain ⟨hk6_0, hf6_0, hl6_0, hn6_0⟩ := hb6.lay (w.heap.size); obtain ⟨hk6_1, hf6_1, hl6_1, hn6_1⟩ := hb6.lay (wr.heap.size))) | (go_at_call 56; refine (coreDepth_any (TCore.mk x1_3 x1_4 x1_5 x1_6 x1_7 x1_8) S _ _ (Dat.HoldVals.bel bl HVB.out) (by have := HCN.out; have h2 := TCore.dep_cnt (TCore.mk x1_3 x1_4 x1_5 x1_6 x1_7 x1_8); omega)).mono ?_; rintro e w7 ⟨rfl, hb7⟩; (have hz7 := hb7.sz; obtain ⟨hk7_0, hf7_0, hl7_0, hn7_0⟩ := hb7.lay (w.heap.size); obtain ⟨hk7_1, hf7_1, hl7_1, hn7_1⟩ := hb7.lay (wr.heap.size); obtain ⟨hk7_2, hf7_2, hl7_2, hn7_2⟩ := hb7.lay (w6.heap.size))))
    all_goals
     go_returns
     exact ⟨ret_bl RR.out.symm, bl⟩
   case pos =>
   have ddp : decide ((400 : Int) < ((TCore.mk x1_3 x1_4 x1_5 x1_6 x1_7 x1_8).dep : Int)) = false := by simp; omega
   have ddpn : decide (400 < (TCore.mk x1_3 x1_4 x1_5 x1_6 x1_7 x1_8).dep) = false := by simp; omega
   cases hv : (TCore.mk x1_3 x1_4 x1_5 x1_6 x1_7 x1_8).vld (x1_2.length : Int) (x2.length : Int) (x0.length : Int) (x1.length : Int) false false
   case false => as_aux_lemma =>
    have HV := hide hv
    have RR := hide (prog_rt (R := x0) (C := x1) (G := x2) (mn := mn) m h1 (by rw [HRT.out, hv]; simp))
    clear hv
    go_wp2_with (first | (go_at_call 52; refine (implIsName_any x1_0 _ (HT.out.on bl)).mono ?_; rintro e wa ⟨rfl, hba⟩; rw [HNB.out]; (have hza := hba.sz; obtain ⟨hka_0, hfa_0, hla_0, hna_0⟩ := hba.lay (w.heap.size); obtain ⟨hka_1, hfa_1, hla_1, hna_1⟩ := hba.lay (wr.heap.size); obtain ⟨hka_2, hfa_2, hla_2, hna_2⟩ := hba.lay (b1))) | (go_at_call 53; refine (containsFn_any x1_2 S _ _ _ (Row.bel bl GR1_2.out) (HT.out.on bl)).mono ?_; rintro e wb ⟨rfl, hbb⟩; rw [HNO.out]; (have hzb := hbb.sz; obtain ⟨hkb_0, hfb_0, hlb_0, hnb_0⟩ := hbb.lay (w.heap.size); obtain ⟨hkb_1, hfb_1, hlb_1, hnb_1⟩ := hbb.lay (wr.heap.size); obtain ⟨hkb_2, hfb_2, hlb_2, hnb_2⟩ := hbb.lay (b1))) | (go_at_call 55; refine (implCountCore_any (TCore.mk x1_3 x1_4 x1_5 x1_6 x1_7 x1_8) S _ _ (Dat.HoldVals.bel bl HVB.out) (by have := HCN.out; omega)).mono ?_; rintro e w6 ⟨rfl, hb6⟩; (have hz6 := hb6.sz; obtain ⟨hk6_0, hf6_0, hl6_0, hn6_0⟩ := hb6.lay (w.heap.size); obtain ⟨hk6_1, hf6_1, hl6_1, hn6_1⟩ := hb6.lay (wr.heap.size))) | (go_at_call 56; refine (coreDepth_any (TCore.mk x1_3 x1_4 x1_5 x1_6 x1_7 x1_8) S _ _ (Dat.HoldVals.bel bl HVB.out) (by have := HCN.out; have h2 := TCore.dep_cnt (TCore.mk x1_3 x1_4 x1_5 x1_6 x1_7 x1_8); omega)).mono ?_; rintro e w7 ⟨rfl, hb7⟩; (have hz7 := hb7.sz; obtain ⟨hk7_0, hf7_0, hl7_0, hn7_0⟩ := hb7.lay (w.heap.size); obtain ⟨hk7_1, hf7_1, hl7_1, hn7_1⟩ := hb7.lay (wr.heap.size); obtain ⟨hk7_2, hf7_2, hl7_2, hn7_2⟩ := hb7.lay (w6.heap.size))) | (go_at_call 57; refine (validCore_any (TCore.mk x1_3 x1_4 x1_5 x1_6 x1_7 x1_8) S _ _ _ _ _ _ _ _ (HT.out.on bl) (Dat.HoldVals.bel bl HVB.out)).mono ?_; rintro e w9 ⟨rfl, hb9⟩; rw [HV.out]))
    all_goals
     go_returns
     exact ⟨ret_bl RR.out.symm, bl⟩
   case true =>
   have HV := hide hv
   have HRY := hide (show rtB (x2.length : Int) (x0.length : Int) (x1.length : Int) x0[m] = true by rw [HRT.out, HNB.out, decide_eq_true h24, decide_eq_true hp1, decide_eq_true hp2, HNO.out, decide_eq_true hdp, hv]; rfl)
   clear hv
   go_wp2_with (first | (go_at_call 52; refine (implIsName_any x1_0 _ (HT.out.on bl)).mono ?_; rintro e wa ⟨rfl, hba⟩; rw [HNB.out]; (have hza := hba.sz; obtain ⟨hka_0, hfa_0, hla_0, hna_0⟩ := hba.lay (w.heap.size); obtain ⟨hka_1, hfa_1, hla_1, hna_1⟩ := hba.lay (wr.heap.size); obtain ⟨hka_2, hfa_2, hla_2, hna_2⟩ := hba.lay (b1))) | (go_at_call 53; refine (containsFn_any x1_2 S _ _ _ (Row.bel bl GR1_2.out) (HT.out.on bl)).mono ?_; rintro e wb ⟨rfl, hbb⟩; rw [HNO.out]; (have hzb := hbb.sz; obtain ⟨hkb_0, hfb_0, hlb_0, hnb_0⟩ := hbb.lay (w.heap.size); obtain ⟨hkb_1, hfb_1, hlb_1, hnb_1⟩ := hbb.lay (wr.heap.size); obtain ⟨hkb_2, hfb_2, hlb_2, hnb_2⟩ := hbb.lay (b1))) | (go_at_call 55; refine (implCountCore_any (TCore.mk x1_3 x1_4 x1_5 x1_6 x1_7 x1_8) S _ _ (Dat.HoldVals.bel bl HVB.out) (by have := HCN.out; omega)).mono ?_; rintro e w6 ⟨rfl, hb6⟩; (have hz6 := hb6.sz; obtain ⟨hk6_0, hf6_0, hl6_0, hn6_0⟩ := hb6.lay (w.heap.size); obtain ⟨hk6_1, hf6_1, hl6_1, hn6_1⟩ := hb6.lay (wr.heap.size))) | (go_at_call 56; refine (coreDepth_any (TCore.mk x1_3 x1_4 x1_5 x1_6 x1_7 x1_8) S _ _ (Dat.HoldVals.bel bl HVB.out) (by have := HCN.out; have h2 := TCore.dep_cnt (TCore.mk x1_3 x1_4 x1_5 x1_6 x1_7 x1_8); omega)).mono ?_; rintro e w7 ⟨rfl, hb7⟩; (have hz7 := hb7.sz; obtain ⟨hk7_0, hf7_0, hl7_0, hn7_0⟩ := hb7.lay (w.heap.size); obtain ⟨hk7_1, hf7_1, hl7_1, hn7_1⟩ := hb7.lay (wr.heap.size); obtain ⟨hk7_2, hf7_2, hl7_2, hn7_2⟩ := hb7.lay (w6.heap.size))) | (go_at_call 57; refine (validCore_any (TCore.mk x1_3 x1_4 x1_5 x1_6 x1_7 x1_8) S _ _ _ _ _ _ _ _ (HT.out.on bl) (Dat.HoldVals.bel bl HVB.out)).mono ?_; rintro e w9 ⟨rfl, hb9⟩; rw [HV.out]))
   go_roundw
   case rel => exact ⟨m + 1, by go_num, by rw [HCT2.out]; go_num, by omega, hide (fun j hj hjm => by
    by_cases e : j = m
    ·
     subst e; exact HRY.out
    ·
     exact hm.out j hj (by omega)), bl⟩
   case measure => simp [intOf]; omega
  case neg =>
  have hd : decide ((m : Int) < (x0.length : Int)) = false := by simp [h1]
  have hmm : m = x0.length := by omega
  subst hmm
  rw [show x0.take x0.length = x0 from List.take_of_length_le (Nat.le_refl _)]
  have RR := hide (prog_end (R := x0) (C := x1) (G := x2) (mn := mn) HA.out (fun j hj => HP_rec.out j hj) (fun j hj => hm.out j hj hj))
  have RZ := hide (show decide (((cntR x0 : Nat) : Int) ≤ 40000) = decide (cntR x0 ≤ 40000) by rw [decide_eq_decide]; omega)
  go_wp2_with (fail)
  all_goals
   go_returns
   exact ⟨ret_bl (by rw [RR.out]; first | exact RZ.out | rfl), bl⟩
end Go.Proofs.YtgofbnmablgedaaGreatDoor
