/- Valid programs: the reference. -/
import Derived.Test.YtgofbnmablgedaaGreatDoorPV6
import Derived.Deep.RegionHeld3
import Derived.Deep.Cut
import Derived.Deep.CutBlock
import Derived.OwnWalk
namespace Go.Proofs.YtgofbnmablgedaaGreatDoor
set_option linter.unusedVariables false
set_option linter.unusedSimpArgs false
set_option maxRecDepth 100000
open Go.RowKit
set_option maxHeartbeats 8000000 in
theorem specProg_any (t : TProgram) : ProgC 16 t := by
 intro S w vs htab hv hwt
 obtain ⟨x0, x1, x2, mn⟩ := t
 have HT := hide htab
 rw [TProgram.D_mk] at hwt
 simp only [Dat.wtL, Dat.wt, List.length_map] at hwt
 obtain ⟨A0, c0, A1, c1, A2, c2, rfl, g0, g1, g2, gm⟩ := TProgram.vals hv
 have HR0 := hide g0
 have hlc0 := g0.1
 have hcm0 := g0.2.1
 simp only [List.length_map] at hlc0
 unfold maxLen at hcm0
 have HR1 := hide g1
 have hlc1 := g1.1
 have hcm1 := g1.2.1
 simp only [List.length_map] at hlc1
 unfold maxLen at hcm1
 have HR2 := hide g2
 have hlc2 := g2.1
 have hcm2 := g2.2.1
 simp only [List.length_map] at hlc2
 unfold maxLen at hcm2
 have HWR := hide (fun (m : Nat) (h : m < x0.length) => rt_wt h (b := 1048576) (by omega))
 have hn0 : x0.length ≤ 1048576 := by omega
 have hn1 : x1.length ≤ 1048576 := by omega
 have hn2 : x2.length ≤ 1048576 := by omega
 clear hwt hv g0 g1 g2 htab
 obtain ⟨bA, hbA⟩ : ∃ bA, headP x0 x1 x2 mn = bA := ⟨_, rfl⟩
 have HA := hide hbA
 clear hbA
 go_enter Tryz.func16, Tryz.ntmps16
 go_upto_region 1 with (fail)
 go_cut [50] from 9 (fun v wx => v = .bool (!bA) ∧ Bel (w.alloc (.cells #[.slice A0 x0.length c0, .slice A1 x1.length c1, .slice A2 x2.length c2, .int .i64 mn] 38)) wx)
 case first => as_aux_lemma =>
  by_cases c1 : 1 ≤ x0.length
  case neg => as_aux_lemma =>
   have c1f : decide ((x0.length : Int) < 1) = true := by simp; omega
   obtain rfl : false = bA := by rw [← HA.out]; unfold headP; rw [decide_eq_false c1]; simp
   clear c1
   go_wp2_with (fail)
   all_goals go_meet
   all_goals exact ⟨rfl, bl⟩
  case pos =>
  have c1f : decide ((x0.length : Int) < 1) = false := by simp; omega
  by_cases c2 : x0.length ≤ 12
  case neg => as_aux_lemma =>
   have c2f : decide ((12 : Int) < (x0.length : Int)) = true := by simp; omega
   obtain rfl : false = bA := by rw [← HA.out]; unfold headP; rw [decide_eq_false c2]; simp
   clear c2
   go_wp2_with (fail)
   all_goals go_meet
   all_goals exact ⟨rfl, bl⟩
  case pos =>
  have c2f : decide ((12 : Int) < (x0.length : Int)) = false := by simp; omega
  by_cases c3 : x1.length ≤ 8
  case neg => as_aux_lemma =>
   have c3f : decide ((8 : Int) < (x1.length : Int)) = true := by simp; omega
   obtain rfl : false = bA := by rw [← HA.out]; unfold headP; rw [decide_eq_false c3]; simp
   clear c3
   go_wp2_with (fail)
   all_goals go_meet
   all_goals exact ⟨rfl, bl⟩
  case pos =>
  have c3f : decide ((8 : Int) < (x1.length : Int)) = false := by simp; omega
  cases hnm : (x2.all nameB && decide ((x2.length : Int) ≤ 12))
  case false => as_aux_lemma =>
   have HNM := hide hnm
   obtain rfl : false = bA := by rw [← HA.out]; exact (head_names HNM.out).symm
   clear hnm
   go_wp2_with (go_at_call 43; refine (namesOk_row x2 12 S _ _ _ (Row.bel bl HR2.out)).mono ?_; rintro e w8 ⟨rfl, hb8⟩; rw [HNM.out]; (have hz8 := hb8.sz; obtain ⟨hk8_0, hf8_0, hl8_0, hn8_0⟩ := hb8.lay (w.heap.size)))
   all_goals go_meet
   all_goals exact ⟨rfl, bl⟩
  case true =>
  have HNM := hide hnm
  simp only [Bool.and_eq_true, decide_eq_true_eq] at hnm
  have HG := hide hnm.1
  have hG12 : x2.length ≤ 12 := by omega
  clear hnm
  by_cases hmn : 0 ≤ mn ∧ mn < (x0.length : Int)
  case neg => as_aux_lemma =>
   have dm : (decide (0 ≤ mn) && decide (mn ≤ (x0.length : Int) - 1)) = false := by simp; omega
   obtain rfl : false = bA := by rw [← HA.out]; unfold headP; rw [main_out hmn]; simp
   clear hmn
   go_wp2_with (first | (go_at_call 43; refine (namesOk_row x2 12 S _ _ _ (Row.bel bl HR2.out)).mono ?_; rintro e w8 ⟨rfl, hb8⟩; rw [HNM.out]; (have hz8 := hb8.sz; obtain ⟨hk8_0, hf8_0, hl8_0, hn8_0⟩ := hb8.lay (w.heap.size))) | (go_at_call 17; refine (l1In_any _ _ _ _).mono ?_; rintro e w9 ⟨rfl, rfl⟩))
   all_goals go_meet
   all_goals exact ⟨rfl, bl⟩
  case pos =>
  have dm0 : decide (0 ≤ mn) = true := by simp; omega
  have dm1 : decide (mn ≤ (x0.length : Int) - 1) = true := by simp; omega
  obtain ⟨q, rfl⟩ := Int.eq_ofNat_of_zero_le hmn.1
  have hq : q < x0.length := by omega
  have dm1n : decide (x0.length ≤ q) = false := by simp; omega
  have hbw : Bel w w := Bel.refl w
  (obtain ⟨b1, o1, x1_0, x1_1, x1_2, x1_3, x1_4, x1_5, x1_6, x1_7, x1_8, A1_2, C1_2, A1_8, C1_8, hA1, hS1, hl1, hx1, hv1, g1_0, g1_1, g1_2, g1_3, g1_4, g1_5, g1_6, g1_7, g1_8, c1_0, c1_1, c1_2, c1_3, c1_4, c1_5, c1_6, c1_7, c1_8⟩ := TRoutine.at HR0.out q hq; subst hA1; have HV1 := hide (Dat.HoldVals.bel hbw hv1); have hh1 := hbw.box b1 hl1; have hw1 := Nat.lt_of_lt_of_le hl1 (Bel.size hbw); replace c1_0 := (hh1 _).trans c1_0; replace c1_1 := (hh1 _).trans c1_1; replace c1_2 := (hh1 _).trans c1_2; replace c1_3 := (hh1 _).trans c1_3; replace c1_4 := (hh1 _).trans c1_4; replace c1_5 := (hh1 _).trans c1_5; replace c1_6 := (hh1 _).trans c1_6; replace c1_7 := (hh1 _).trans c1_7; replace c1_8 := (hh1 _).trans c1_8; have HX1 := hide hx1; have GR1_2 := hide g1_2; have GR1_8 := hide g1_8; clear hh1 hv1 hx1 hS1 g1_2 g1_8)
  have hne1 : ¬ b1 = w.heap.size := by omega
  have HPR := hide (show x0[q].par = x1_1 by rw [HX1.out]; rfl)
  by_cases hp0 : x1_1 = 0
  case neg => as_aux_lemma =>
   have dp : (x1_1 != 0) = true := by simp; exact hp0
   obtain rfl : false = bA := by rw [← HA.out]; unfold headP; rw [main_no hq (by rw [HPR.out]; exact hp0)]; simp
   clear hp0
   go_wp2_with (first | (go_at_call 43; refine (namesOk_row x2 12 S _ _ _ (Row.bel bl HR2.out)).mono ?_; rintro e w8 ⟨rfl, hb8⟩; rw [HNM.out]; (have hz8 := hb8.sz; obtain ⟨hk8_0, hf8_0, hl8_0, hn8_0⟩ := hb8.lay (w.heap.size); obtain ⟨hk8_1, hf8_1, hl8_1, hn8_1⟩ := hb8.lay (b1))) | (go_at_call 17; refine (l1In_any _ _ _ _).mono ?_; rintro e w9 ⟨rfl, rfl⟩))
   all_goals go_meet
   all_goals exact ⟨rfl, bl⟩
  case pos =>
  have dp : (x1_1 != 0) = false := by simp; exact hp0
  obtain rfl : true = bA := by rw [← HA.out]; unfold headP; rw [decide_eq_true c1, decide_eq_true c2, decide_eq_true c3, HG.out, decide_eq_true hG12, main_yes hq (by rw [HPR.out]; exact hp0)]; rfl
  clear hp0
  go_wp2_with (first | (go_at_call 43; refine (namesOk_row x2 12 S _ _ _ (Row.bel bl HR2.out)).mono ?_; rintro e w8 ⟨rfl, hb8⟩; rw [HNM.out]; (have hz8 := hb8.sz; obtain ⟨hk8_0, hf8_0, hl8_0, hn8_0⟩ := hb8.lay (w.heap.size); obtain ⟨hk8_1, hf8_1, hl8_1, hn8_1⟩ := hb8.lay (b1))) | (go_at_call 17; refine (l1In_any _ _ _ _).mono ?_; rintro e w9 ⟨rfl, rfl⟩))
  all_goals go_meet
  all_goals exact ⟨rfl, bl⟩
 case rest =>
 obtain ⟨rfl, hbc⟩ := hcut
 have hz0 := hbc.size
 simp only [World.size_alloc] at hz0
 have y0 := hbc.box w.heap.size (by simp)
 have hl0 : w.heap.size < wc.heap.size := by omega
 have hq0 : ¬ w.heap.size = wc.heap.size := by omega
 cases bA
 case false => as_aux_lemma =>
  have RR := hide (prog_head (R := x0) (C := x1) (G := x2) (mn := mn) HA.out)
  go_wp2_with (fail)
  all_goals
   go_returns
   exact ⟨ret_bl RR.out.symm, bl⟩
 case true =>
 have hA2 := HA.out
 unfold headP at hA2
 simp only [Bool.and_eq_true, decide_eq_true_eq] at hA2
 have h12 : x0.length ≤ 12 := hA2.1.1.1.1.2
 have h8 : x1.length ≤ 8 := hA2.1.1.1.2
 have hg12 : x2.length ≤ 12 := hA2.1.2
 clear hA2
 simp only [Bool.not_true]
 go_wp2_with (fail)
 have HWC := hide hbc
 clear hz0 y0 hl0 hq0
 go_loopw [3] (fun v wr => ∃ m : Nat, v = .int .i64 m ∧ m ≤ x1.length ∧ Hid (∀ j (hj : j < x1.length), j < m → recB x1[j] = true) ∧ Bel (w.alloc (.cells #[.slice A0 x0.length c0, .slice A1 x1.length c1, .slice A2 x2.length c2, .int .i64 mn] 38)) wr) (fun v _ => x1.length - (intOf v).toNat)
 case atStart => exact ⟨0, rfl, by omega, fun j _ hj => by omega, HWC.out⟩
 case round => as_aux_lemma =>
  obtain ⟨m, rfl, m1, hm, hbx⟩ := hrel
  have hz0 := hbx.size
  simp only [World.size_alloc] at hz0
  have y0 := hbx.box w.heap.size (by simp)
  have hl0 : w.heap.size < wr.heap.size := by omega
  have hq0 : ¬ w.heap.size = wr.heap.size := by omega
  have hbw : Bel w wr := bl
  have e0 : wr.cell? ⟨w.heap.size, 0, none⟩ = some (.slice A0 x0.length c0) := (y0 0).trans (by simp)
  have e1 : wr.cell? ⟨w.heap.size, 1, none⟩ = some (.slice A1 x1.length c1) := (y0 1).trans (by simp)
  have e2 : wr.cell? ⟨w.heap.size, 2, none⟩ = some (.slice A2 x2.length c2) := (y0 2).trans (by simp)
  have e3 : wr.cell? ⟨w.heap.size, 3, none⟩ = some (.int .i64 mn) := (y0 3).trans (by simp)
  clear y0
  by_cases h1 : m < x1.length
  case pos => as_aux_lemma =>
   have hd : decide ((m : Int) < (x1.length : Int)) = true := by simp [h1]
   (obtain ⟨b1, o1, x1_0, x1_1, x1_2, A1_1, C1_1, hA1, hS1, hl1, hx1, hv1, g1_0, g1_1, g1_2, c1_0, c1_1, c1_2⟩ := TRecordType.at HR1.out m h1; subst hA1; have HV1 := hide (Dat.HoldVals.bel hbw hv1); have hh1 := hbw.box b1 hl1; have hw1 := Nat.lt_of_lt_of_le hl1 (Bel.size hbw); replace c1_0 := (hh1 _).trans c1_0; replace c1_1 := (hh1 _).trans c1_1; replace c1_2 := (hh1 _).trans c1_2; have HX1 := hide hx1; have GR1_1 := hide g1_1; clear hh1 hv1 hx1 hS1 g1_1)
   have hne1 : ¬ b1 = wr.heap.size := by omega
   have HRC := hide (show recB x1[m] = (nameB x1_0 && x1_1.all nameB && decide (x1_1.length ≤ 6) && !twiceB x1_1 && decide (0 ≤ x1_2)) by rw [HX1.out]; rfl)
   have hf := GR1_1.out.1
   have hfm := GR1_1.out.2.1
   simp only [List.length_map] at hf
   unfold maxLen at hfm g1_0
   cases hn : nameB x1_0
   case false => as_aux_lemma =>
    have HR0 := hide (show recB x1[m] = false by rw [HRC.out]; simp [hn])
    have Hhn := hide hn
    clear hn
    go_wp2_with (first | (go_at_call 44; refine (specIsName_any x1_0 _).mono ?_; rintro e wa ⟨rfl, hba⟩; (try rw [Hhn.out]); (have hza := hba.sz; obtain ⟨hka_0, hfa_0, hla_0, hna_0⟩ := hba.lay (w.heap.size); obtain ⟨hka_1, hfa_1, hla_1, hna_1⟩ := hba.lay (wr.heap.size); obtain ⟨hka_2, hfa_2, hla_2, hna_2⟩ := hba.lay (b1))) | (go_at_call 43; refine (namesOk_row x1_1 6 S _ _ _ (Row.bel bl GR1_1.out)).mono ?_; rintro e wb ⟨rfl, hbb⟩; (try rw [Hha.out]); (try rw [dl]); (try simp only [Bool.and_true, Bool.true_and, Bool.and_false, Bool.false_and]); (have hzb := hbb.sz; obtain ⟨hkb_0, hfb_0, hlb_0, hnb_0⟩ := hbb.lay (w.heap.size); obtain ⟨hkb_1, hfb_1, hlb_1, hnb_1⟩ := hbb.lay (wr.heap.size); obtain ⟨hkb_2, hfb_2, hlb_2, hnb_2⟩ := hbb.lay (b1))) | (go_at_call 45; refine (l9Twice_row x1_1 S _ _ _ (Row.bel bl GR1_1.out)).mono ?_; rintro e wc ⟨rfl, hbc⟩; (try rw [Hht.out]); (have hzc := hbc.sz; obtain ⟨hkc_0, hfc_0, hlc_0, hnc_0⟩ := hbc.lay (w.heap.size); obtain ⟨hkc_1, hfc_1, hlc_1, hnc_1⟩ := hbc.lay (wr.heap.size); obtain ⟨hkc_2, hfc_2, hlc_2, hnc_2⟩ := hbc.lay (b1))))
    all_goals
     go_returns
     exact ⟨ret_bl (prog_rec (R := x0) (C := x1) (G := x2) (mn := mn) m h1 HR0.out).symm, bl⟩
   case true =>
   have Hhn := hide hn
   clear hn
   by_cases hlen : x1_1.length ≤ 6
   case neg => as_aux_lemma =>
    have HR0 := hide (show recB x1[m] = false by rw [HRC.out]; simp [hlen])
    have dhlen : decide ((6 : Int) < (x1_1.length : Int)) = true := by simp; omega
    have dl : decide ((x1_1.length : Int) ≤ 6) = false := by simp; omega
    go_wp2_with (first | (go_at_call 44; refine (specIsName_any x1_0 _).mono ?_; rintro e wa ⟨rfl, hba⟩; (try rw [Hhn.out]); (have hza := hba.sz; obtain ⟨hka_0, hfa_0, hla_0, hna_0⟩ := hba.lay (w.heap.size); obtain ⟨hka_1, hfa_1, hla_1, hna_1⟩ := hba.lay (wr.heap.size); obtain ⟨hka_2, hfa_2, hla_2, hna_2⟩ := hba.lay (b1))) | (go_at_call 43; refine (namesOk_row x1_1 6 S _ _ _ (Row.bel bl GR1_1.out)).mono ?_; rintro e wb ⟨rfl, hbb⟩; (try rw [Hha.out]); (try rw [dl]); (try simp only [Bool.and_true, Bool.true_and, Bool.and_false, Bool.false_and]); (have hzb := hbb.sz; obtain ⟨hkb_0, hfb_0, hlb_0, hnb_0⟩ := hbb.lay (w.heap.size); obtain ⟨hkb_1, hfb_1, hlb_1, hnb_1⟩ := hbb.lay (wr.heap.size); obtain ⟨hkb_2, hfb_2, hlb_2, hnb_2⟩ := hbb.lay (b1))) | (go_at_call 45; refine (l9Twice_row x1_1 S _ _ _ (Row.bel bl GR1_1.out)).mono ?_; rintro e wc ⟨rfl, hbc⟩; (try rw [Hht.out]); (have hzc := hbc.sz; obtain ⟨hkc_0, hfc_0, hlc_0, hnc_0⟩ := hbc.lay (w.heap.size); obtain ⟨hkc_1, hfc_1, hlc_1, hnc_1⟩ := hbc.lay (wr.heap.size); obtain ⟨hkc_2, hfc_2, hlc_2, hnc_2⟩ := hbc.lay (b1))))
    all_goals
     go_returns
     exact ⟨ret_bl (prog_rec (R := x0) (C := x1) (G := x2) (mn := mn) m h1 HR0.out).symm, bl⟩
   case pos =>
   have dhlen : decide ((6 : Int) < (x1_1.length : Int)) = false := by simp; omega
   have dl : decide ((x1_1.length : Int) ≤ 6) = true := by simp; omega
   cases ha : x1_1.all nameB
   case false => as_aux_lemma =>
    have HR0 := hide (show recB x1[m] = false by rw [HRC.out]; simp [ha])
    have Hha := hide ha
    clear ha
    go_wp2_with (first | (go_at_call 44; refine (specIsName_any x1_0 _).mono ?_; rintro e wa ⟨rfl, hba⟩; (try rw [Hhn.out]); (have hza := hba.sz; obtain ⟨hka_0, hfa_0, hla_0, hna_0⟩ := hba.lay (w.heap.size); obtain ⟨hka_1, hfa_1, hla_1, hna_1⟩ := hba.lay (wr.heap.size); obtain ⟨hka_2, hfa_2, hla_2, hna_2⟩ := hba.lay (b1))) | (go_at_call 43; refine (namesOk_row x1_1 6 S _ _ _ (Row.bel bl GR1_1.out)).mono ?_; rintro e wb ⟨rfl, hbb⟩; (try rw [Hha.out]); (try rw [dl]); (try simp only [Bool.and_true, Bool.true_and, Bool.and_false, Bool.false_and]); (have hzb := hbb.sz; obtain ⟨hkb_0, hfb_0, hlb_0, hnb_0⟩ := hbb.lay (w.heap.size); obtain ⟨hkb_1, hfb_1, hlb_1, hnb_1⟩ := hbb.lay (wr.heap.size); obtain ⟨hkb_2, hfb_2, hlb_2, hnb_2⟩ := hbb.lay (b1))) | (go_at_call 45; refine (l9Twice_row x1_1 S _ _ _ (Row.bel bl GR1_1.out)).mono ?_; rintro e wc ⟨rfl, hbc⟩; (try rw [Hht.out]); (have hzc := hbc.sz; obtain ⟨hkc_0, hfc_0, hlc_0, hnc_0⟩ := hbc.lay (w.heap.size); obtain ⟨hkc_1, hfc_1, hlc_1, hnc_1⟩ := hbc.lay (wr.heap.size); obtain ⟨hkc_2, hfc_2, hlc_2, hnc_2⟩ := hbc.lay (b1))))
    all_goals
     go_returns
     exact ⟨ret_bl (prog_rec (R := x0) (C := x1) (G := x2) (mn := mn) m h1 HR0.out).symm, bl⟩
   case true =>
   have Hha := hide ha
   clear ha
   cases ht : twiceB x1_1
   case true => as_aux_lemma =>
    have HR0 := hide (show recB x1[m] = false by rw [HRC.out]; simp [ht])
    have Hht := hide ht
    clear ht
    go_wp2_with (first | (go_at_call 44; refine (specIsName_any x1_0 _).mono ?_; rintro e wa ⟨rfl, hba⟩; (try rw [Hhn.out]); (have hza := hba.sz; obtain ⟨hka_0, hfa_0, hla_0, hna_0⟩ := hba.lay (w.heap.size); obtain ⟨hka_1, hfa_1, hla_1, hna_1⟩ := hba.lay (wr.heap.size); obtain ⟨hka_2, hfa_2, hla_2, hna_2⟩ := hba.lay (b1))) | (go_at_call 43; refine (namesOk_row x1_1 6 S _ _ _ (Row.bel bl GR1_1.out)).mono ?_; rintro e wb ⟨rfl, hbb⟩; (try rw [Hha.out]); (try rw [dl]); (try simp only [Bool.and_true, Bool.true_and, Bool.and_false, Bool.false_and]); (have hzb := hbb.sz; obtain ⟨hkb_0, hfb_0, hlb_0, hnb_0⟩ := hbb.lay (w.heap.size); obtain ⟨hkb_1, hfb_1, hlb_1, hnb_1⟩ := hbb.lay (wr.heap.size); obtain ⟨hkb_2, hfb_2, hlb_2, hnb_2⟩ := hbb.lay (b1))) | (go_at_call 45; refine (l9Twice_row x1_1 S _ _ _ (Row.bel bl GR1_1.out)).mono ?_; rintro e wc ⟨rfl, hbc⟩; (try rw [Hht.out]); (have hzc := hbc.sz; obtain ⟨hkc_0, hfc_0, hlc_0, hnc_0⟩ := hbc.lay (w.heap.size); obtain ⟨hkc_1, hfc_1, hlc_1, hnc_1⟩ := hbc.lay (wr.heap.size); obtain ⟨hkc_2, hfc_2, hlc_2, hnc_2⟩ := hbc.lay (b1))))
    all_goals
     go_returns
     exact ⟨ret_bl (prog_rec (R := x0) (C := x1) (G := x2) (mn := mn) m h1 HR0.out).symm, bl⟩
   case false =>
   have Hht := hide ht
   clear ht
   by_cases hl : 0 ≤ x1_2
   case neg => as_aux_lemma =>
    have HR0 := hide (show recB x1[m] = false by rw [HRC.out]; simp [hl])
    have dhl : decide (x1_2 < 0) = true := by simp; omega
    go_wp2_with (first | (go_at_call 44; refine (specIsName_any x1_0 _).mono ?_; rintro e wa ⟨rfl, hba⟩; (try rw [Hhn.out]); (have hza := hba.sz; obtain ⟨hka_0, hfa_0, hla_0, hna_0⟩ := hba.lay (w.heap.size); obtain ⟨hka_1, hfa_1, hla_1, hna_1⟩ := hba.lay (wr.heap.size); obtain ⟨hka_2, hfa_2, hla_2, hna_2⟩ := hba.lay (b1))) | (go_at_call 43; refine (namesOk_row x1_1 6 S _ _ _ (Row.bel bl GR1_1.out)).mono ?_; rintro e wb ⟨rfl, hbb⟩; (try rw [Hha.out]); (try rw [dl]); (try simp only [Bool.and_true, Bool.true_and, Bool.and_false, Bool.false_and]); (have hzb := hbb.sz; obtain ⟨hkb_0, hfb_0, hlb_0, hnb_0⟩ := hbb.lay (w.heap.size); obtain ⟨hkb_1, hfb_1, hlb_1, hnb_1⟩ := hbb.lay (wr.heap.size); obtain ⟨hkb_2, hfb_2, hlb_2, hnb_2⟩ := hbb.lay (b1))) | (go_at_call 45; refine (l9Twice_row x1_1 S _ _ _ (Row.bel bl GR1_1.out)).mono ?_; rintro e wc ⟨rfl, hbc⟩; (try rw [Hht.out]); (have hzc := hbc.sz; obtain ⟨hkc_0, hfc_0, hlc_0, hnc_0⟩ := hbc.lay (w.heap.size); obtain ⟨hkc_1, hfc_1, hlc_1, hnc_1⟩ := hbc.lay (wr.heap.size); obtain ⟨hkc_2, hfc_2, hlc_2, hnc_2⟩ := hbc.lay (b1))))
    all_goals
     go_returns
     exact ⟨ret_bl (prog_rec (R := x0) (C := x1) (G := x2) (mn := mn) m h1 HR0.out).symm, bl⟩
   case pos =>
   have dhl : decide (x1_2 < 0) = false := by simp; omega
   have HR0 := hide (show recB x1[m] = true by rw [HRC.out, Hhn.out, Hha.out, Hht.out, decide_eq_true hlen, decide_eq_true hl]; first | done | rfl)
   go_wp2_with (first | (go_at_call 44; refine (specIsName_any x1_0 _).mono ?_; rintro e wa ⟨rfl, hba⟩; (try rw [Hhn.out]); (have hza := hba.sz; obtain ⟨hka_0, hfa_0, hla_0, hna_0⟩ := hba.lay (w.heap.size); obtain ⟨hka_1, hfa_1, hla_1, hna_1⟩ := hba.lay (wr.heap.size); obtain ⟨hka_2, hfa_2, hla_2, hna_2⟩ := hba.lay (b1))) | (go_at_call 43; refine (namesOk_row x1_1 6 S _ _ _ (Row.bel bl GR1_1.out)).mono ?_; rintro e wb ⟨rfl, hbb⟩; (try rw [Hha.out]); (try rw [dl]); (try simp only [Bool.and_true, Bool.true_and, Bool.and_false, Bool.false_and]); (have hzb := hbb.sz; obtain ⟨hkb_0, hfb_0, hlb_0, hnb_0⟩ := hbb.lay (w.heap.size); obtain ⟨hkb_1, hfb_1, hlb_1, hnb_1⟩ := hbb.lay (wr.heap.size); obtain ⟨hkb_2, hfb_2, hlb_2, hnb_2⟩ := hbb.lay (b1))) | (go_at_call 45; refine (l9Twice_row x1_1 S _ _ _ (Row.bel bl GR1_1.out)).mono ?_; rintro e wc ⟨rfl, hbc⟩; (try rw [Hht.out]); (have hzc := hbc.sz; obtain ⟨hkc_0, hfc_0, hlc_0, hnc_0⟩ := hbc.lay (w.heap.size); obtain ⟨hkc_1, hfc_1, hlc_1, hnc_1⟩ := hbc.lay (wr.heap.size); obtain ⟨hkc_2, hfc_2, hlc_2, hnc_2⟩ := hbc.lay (b1))))
   go_roundw
   case rel => exact ⟨m + 1, by go_num, by omega, fun j hj hjm => by
    by_cases e : j = m
    ·
     subst e; exact HR0.out
    ·
     exact hm.out j hj (by omega), bl⟩
   case measure => simp [intOf]; omega
  case neg =>
  have hd : decide ((m : Int) < (x1.length : Int)) = false := by simp [h1]
  have HP_rec := hide (fun j (hj : j < x1.length) => hm.out j hj (by omega))
  clear hm
  go_wp2_with (fail)
  have hbx1 : Bel (w.alloc (.cells #[.slice A0 x0.length c0, .slice A1 x1.length c1, .slice A2 x2.length c2, .int .i64 mn] 38)) wr := hbx
  have HWC2 := hide hbx1
  clear hbx hbx1 hz0 hl0 hq0 hbw e0 e1 e2 e3
  go_loopw [5, 6] (fun nv iv wr => ∃ m : Nat, iv = .int .i64 m ∧ nv = .int .i64 ((cntR (x0.take m) : Nat)) ∧ m ≤ x0.length ∧ Hid (∀ j (hj : j < x0.length), j < m → rtB (x2.length : Int) (x0.length : Int) (x1.length : Int) x0[j] = true) ∧ Bel (w.alloc (.cells #[.slice A0 x0.length c0, .slice A1 x1.length c1, .slice A2 x2.length c2, .int .i64 mn] 38)) wr) (fun _ iv _ => x0.length - (intOf iv).toNat)
  case atStart => exact ⟨0, rfl, by simp [cntR], by omega, fun j _ hj => by omega, HWC2.out⟩
  case round => as_aux_lemma =>
   obtain ⟨m, rfl, rfl, m1, hm, hbx⟩ := hrel
   have hz0 := hbx.size
   simp only [World.size_alloc] at hz0
   have y0 := hbx.box w.heap.size (by simp)
   have hl0 : w.heap.size < wr.heap.size := by omega
   have hq0 : ¬ w.heap.size = wr.heap.size := by omega
   have hbw : Bel w wr := bl
   have e0 : wr.cell? ⟨w.heap.size, 0, none⟩ = some (.slice A0 x0.length c0) := (y0 0).trans (by simp)
   have e1 : wr.cell? ⟨w.heap.size, 1, none⟩ = some (.slice A1 x1.length c1) := (y0 1).trans (by simp)
   have e2 : wr.cell? ⟨w.heap.size, 2, none⟩ = some (.slice A2 x2.length c2) := (y0 2).trans (by simp)
   have e3 : wr.cell? ⟨w.heap.size, 3, none⟩ = some (.int .i64 mn) := (y0 3).trans (by simp)
   clear y0
   by_cases h1 : m < x0.length
   case pos => as_aux_lemma =>
    have hd : decide ((m : Int) < (x0.length : Int)) = true := by simp [h1]
    (obtain ⟨b1, o1, x1_0, x1_1, x1_2, x1_3, x1_4, x1_5, x1_6, x1_7, x1_8, A1_2, C1_2, A1_8, C1_8, hA1, hS1, hl1, hx1, hv1, g1_0, g1_1, g1_2, g1_3, g1_4, g1_5, g1_6, g1_7, g1_8, c1_0, c1_1, c1_2, c1_3, c1_4, c1_5, c1_6, c1_7, c1_8⟩ := TRoutine.at HR0.out m h1; subst hA1; have HV1 := hide (Dat.HoldVals.bel hbw hv1); have hh1 := hbw.box b1 hl1; have hw1 := Nat.lt_of_lt_of_le hl1 (Bel.size hbw); replace c1_0 := (hh1 _).trans c1_0; replace c1_1 := (hh1 _).trans c1_1; replace c1_2 := (hh1 _).trans c1_2; replace c1_3 := (hh1 _).trans c1_3; replace c1_4 := (hh1 _).trans c1_4; replace c1_5 := (hh1 _).trans c1_5; replace c1_6 := (hh1 _).trans c1_6; replace c1_7 := (hh1 _).trans c1_7; replace c1_8 := (hh1 _).trans c1_8; have HX1 := hide hx1; have GR1_2 := hide g1_2; have GR1_8 := hide g1_8; clear hh1 hv1 hx1 hS1 g1_2 g1_8)
    have hne1 : ¬ b1 = wr.heap.size := by omega
    have hb1r : b1 < wr.heap.size := by omega
    have HBD := hide (show x0[m].body = (TCore.mk x1_3 x1_4 x1_5 x1_6 x1_7 x1_8) by rw [HX1.out]; rfl)
    have HCN := hide (show (TCore.mk x1_3 x1_4 x1_5 x1_6 x1_7 x1_8).cnt ≤ 1048577 by rw [← HBD.out]; exact HWR.out m h1)
    have HRT := hide (show rtB (x2.length : Int) (x0.length : Int) (x1.length : Int) x0[m] = (nameB x1_0 && decide (x1_2.length ≤ 24) && decide (0 ≤ x1_1) && decide (x1_1 ≤ (x1_2.length : Int)) && !(x1_2.any badS) && decide ((TCore.mk x1_3 x1_4 x1_5 x1_6 x1_7 x1_8).dep ≤ 400) && (TCore.mk x1_3 x1_4 x1_5 x1_6 x1_7 x1_8).vld (x1_2.length : Int) (x2.length : Int) (x0.length : Int) (x1.length : Int) false false) by rw [HX1.out]; rfl)
    have HVB := hide (TCore.vals_mk g1_3 g1_4 g1_5 g1_6 g1_7 GR1_8.out)
    have HS7 := hide g1_7
    have hs2 := GR1_2.out.1
    have hs2m := GR1_2.out.2.1
    simp only [List.length_map] at hs2
    unfold maxLen at hs2m g1_0
    clear g1_7
    have HCT := hide (cntR_take x0 m h1)
    have hcb : cntR (x0.take m) ≤ 12582924 := cntR_twelve x0 m (fun k hk => HWR.out k hk) h12
    cases hnb : nameB x1_0
    case false => as_aux_lemma =>
     have HNB := hide hnb
     have RR := hide (prog_rt (R := x0) (C := x1) (G := x2) (mn := mn) m h1 (by rw [HRT.out, hnb]; simp))
     clear hnb
     go_wp2_with (go_at_call 44; refine (specIsName_any x1_0 _).mono ?_; rintro e wa ⟨rfl, hba⟩; rw [HNB.out]; (have hza := hba.sz; obtain ⟨hka_0, hfa_0, hla_0, hna_0⟩ := hba.lay (w.heap.size); obtain ⟨hka_1, hfa_1, hla_1, hna_1⟩ := hba.lay (wr.heap.size); obtain ⟨hka_2, hfa_2, hla_2, hna_2⟩ := hba.lay (b1)))
     all_goals
      go_returns
      exact ⟨ret_bl RR.out.symm, bl⟩
    case true =>
    have HNB := hide hnb
    clear hnb
    by_cases h24 : x1_2.length ≤ 24
    case neg => as_aux_lemma =>
     have d24 : decide ((24 : Int) < (x1_2.length : Int)) = true := by simp; omega
     have RR := hide (prog_rt (R := x0) (C := x1) (G := x2) (mn := mn) m h1 (by rw [HRT.out, decide_eq_false h24]; simp))
     go_wp2_with (go_at_call 44; refine (specIsName_any x1_0 _).mono ?_; rintro e wa ⟨rfl, hba⟩; rw [HNB.out]; (have hza := hba.sz; obtain ⟨hka_0, hfa_0, hla_0, hna_0⟩ := hba.lay (w.heap.size); obtain ⟨hka_1, hfa_1, hla_1, hna_1⟩ := hba.lay (wr.heap.size); obtain ⟨hka_2, hfa_2, hla_2, hna_2⟩ := hba.lay (b1)))
     all_goals
      go_returns
      exact ⟨ret_bl RR.out.symm, bl⟩
    case pos =>
    have d24 : decide ((24 : Int) < (x1_2.length : Int)) = false := by simp; omega
    by_cases hpp : 0 ≤ x1_1 ∧ x1_1 ≤ (x1_2.length : Int)
    case neg => as_aux_lemma =>
     have dpp : (decide (0 ≤ x1_1) && decide (x1_1 ≤ (x1_2.length : Int))) = false := by simp; omega
     have RR := hide (prog_rt (R := x0) (C := x1) (G := x2) (mn := mn) m h1 (by
      rw [HRT.out]
      by_cases q : 0 ≤ x1_1
      ·
       rw [decide_eq_false (show ¬ x1_1 ≤ (x1_2.length : Int) from fun r => hpp ⟨q, r⟩)]; simp
      ·
       rw [decide_eq_false q]; simp))
     go_wp2_with (first | (go_at_call 44; refine (specIsName_any x1_0 _).mono ?_; rintro e wa ⟨rfl, hba⟩; rw [HNB.out]; (have hza := hba.sz; obtain ⟨hka_0, hfa_0, hla_0, hna_0⟩ := hba.lay (w.heap.size); obtain ⟨hka_1, hfa_1, hla_1, hna_1⟩ := hba.lay (wr.heap.size); obtain ⟨hka_2, hfa_2, hla_2, hna_2⟩ := hba.lay (b1))) | (go_at_call 17; refine (l1In_any _ _ _ _).mono ?_; rintro e w9 ⟨rfl, rfl⟩))
     all_goals
      go_returns
      exact ⟨ret_bl RR.out.symm, bl⟩
    case pos =>
    have dp0 : decide (0 ≤ x1_1) = true := by simp; omega
    have dp1 : decide (x1_1 ≤ (x1_2.length : Int)) = true := by simp; omega
    go_wp2_with (first | (go_at_call 44; refine (specIsName_any x1_0 _).mono ?_; rintro e wa ⟨rfl, hba⟩; rw [HNB.out]; (have hza := hba.sz; obtain ⟨hka_0, hfa_0, hla_0, hna_0⟩ := hba.lay (w.heap.size); obtain ⟨hka_1, hfa_1, hla_1, hna_1⟩ := hba.lay (wr.heap.size); obtain ⟨hka_2, hfa_2, hla_2, hna_2⟩ := hba.lay (b1))) | (go_at_call 17; refine (l1In_any _ _ _ _).mono ?_; rintro e w9 ⟨rfl, rfl⟩))
    have hzk := hba.size
    simp only [World.size_alloc] at hzk
    have HE0 := hide (fun (wx : World) (h : Bel wa wx) => (h.box w.heap.size (by omega) 0).trans (show wa.cell? ⟨w.heap.size, 0, none⟩ = some (.slice (some ⟨b1, o1, none⟩) x0.length c0) by rw [hba.box w.heap.size (by simp; omega), World.cell?_alloc_some _ _ _ (by rw [e0]; rfl), e0]))
    have HE1 := hide (fun (wx : World) (h : Bel wa wx) => (h.box w.heap.size (by omega) 1).trans (show wa.cell? ⟨w.heap.size, 1, none⟩ = some (.slice A1 x1.length c1) by rw [hba.box w.heap.size (by simp; omega), World.cell?_alloc_some _ _ _ (by rw [e1]; rfl), e1]))
    have HE2 := hide (fun (wx : World) (h : Bel wa wx) => (h.box w.heap.size (by omega) 2).trans (show wa.cell? ⟨w.heap.size, 2, none⟩ = some (.slice A2 x2.length c2) by rw [hba.box w.heap.size (by simp; omega), World.cell?_alloc_some _ _ _ (by rw [e2]; rfl), e2]))
    have HE3 := hide (fun (wx : World) (h : Bel wa wx) => (h.box w.heap.size (by omega) 3).trans (show wa.cell? ⟨w.heap.size, 3, none⟩ = some (.int .i64 mn) by rw [hba.box w.heap.size (by simp; omega), World.cell?_alloc_some _ _ _ (by rw [e3]; rfl), e3]))
    have HQ2 := hide (fun (wx : World) (h : Bel wa wx) => (h.box wr.heap.size (by omega) 2).trans (show wa.cell? ⟨wr.heap.size, 2, none⟩ = some (.slice A1_2 x1_2.length C1_2) by rw [hba.box wr.heap.size (by simp)]; simp [go_sem]))
    have HQ3 := hide (fun (wx : World) (h : Bel wa wx) => (h.box wr.heap.size (by omega) 3).trans (show wa.cell? ⟨wr.heap.size, 3, none⟩ = some (.int .i64 x1_3) by rw [hba.box wr.heap.size (by simp)]; simp [go_sem]))
    have HQ4 := hide (fun (wx : World) (h : Bel wa wx) => (h.box wr.heap.size (by omega) 4).trans (show wa.cell? ⟨wr.heap.size, 4, none⟩ = some (.int .i64 x1_4) by rw [hba.box wr.heap.size (by simp)]; simp [go_sem]))
    have HQ5 := hide (fun (wx : World) (h : Bel wa wx) => (h.box wr.heap.size (by omega) 5).trans (show wa.cell? ⟨wr.heap.size, 5, none⟩ = some (.int .i64 x1_5) by rw [hba.box wr.heap.size (by simp)]; simp [go_sem]))
    have HQ6 := hide (fun (wx : World) (h : Bel wa wx) => (h.box wr.heap.size (by omega) 6).trans (show wa.cell? ⟨wr.heap.size, 6, none⟩ = some (.int .i64 x1_6) by rw [hba.box wr.heap.size (by simp)]; simp [go_sem]))
    have HQ7 := hide (fun (wx : World) (h : Bel wa wx) => (h.box wr.heap.size (by omega) 7).trans (show wa.cell? ⟨wr.heap.size, 7, none⟩ = some (.string x1_7) by rw [hba.box wr.heap.size (by simp)]; simp [go_sem]))
    have HQ8 := hide (fun (wx : World) (h : Bel wa wx) => (h.box wr.heap.size (by omega) 8).trans (show wa.cell? ⟨wr.heap.size, 8, none⟩ = some (.slice A1_8 x1_8.length C1_8) by rw [hba.box wr.heap.size (by simp)]; simp [go_sem]))
    have HLT := hide (fun (wx : World) (h : Bel wa wx) => (show w.heap.size < wx.heap.size ∧ wr.heap.size < wx.heap.size by have := h.size; omega))
    have hb0a : Bel (w.alloc (.cells #[.slice (some ⟨b1, o1, none⟩) x0.length c0, .slice A1 x1.length c1, .slice A2 x2.length c2, .int .i64 mn] 38)) wa := bl
    clear e0 e1 e2 e3 hl0 hq0 hz0 hbx hne1 hzk hba
    go_loopw [8] (fun v wq => ∃ k : Nat, v = .int .i64 k ∧ k ≤ x1_2.length ∧ Hid (∀ j (hj : j < x1_2.length), j < k → badS x1_2[j] = false) ∧ Bel wa wq) (fun v _ => x1_2.length - (intOf v).toNat)
    case atStart => exact ⟨0, rfl, by omega, fun j _ hj => by omega, Bel.refl _⟩
    case round => as_aux_lemma =>
     obtain ⟨k, rfl, k1, hk, hbq⟩ := hrel
     have e0 := HE0.out _ hbq
     have e1 := HE1.out _ hbq
     have e2 := HE2.out _ hbq
     have e3 := HE3.out _ hbq
     have q2 := HQ2.out _ hbq
     have q3 := HQ3.out _ hbq
     have q4 := HQ4.out _ hbq
     have q5 := HQ5.out _ hbq
     have q6 := HQ6.out _ hbq
     have q7 := HQ7.out _ hbq
     have q8 := HQ8.out _ hbq
     obtain ⟨hlt0, hlt1⟩ := HLT.out _ hbq
     by_cases h2 : k < x1_2.length
     case pos => as_aux_lemma =>
      have hd2 : decide ((k : Int) < (x1_2.length : Int)) = true := by simp [h2]
      obtain ⟨b2, o2, hA2, hS2, hl2, hz2, c2x⟩ := strAt GR1_2.out k h2
      subst hA2
      replace c2x := ((show Bel w wr from bl).box b2 hl2 _).trans c2x
      clear e0 e1 e2 e3 q3 q4 q5 q6 q7 q8
      by_cases h0 : x1_2[k].size = 0
      case pos => as_aux_lemma =>
       have tE : x1_2[k].toList.isEmpty = true := tlE.2 h0
       have tEn : (!x1_2[k].toList.isEmpty) = false := by rw [tE]; rfl
       have HBN := hide (show badS x1_2[k] = false by unfold badS; rw [decide_eq_true h0]; rfl)
       clear h0
       go_wp2_with (fail)
       go_roundw
       case rel => exact ⟨k + 1, by go_num, by omega, hide (fun j hj hjm => by
        by_cases e : j = k
        ·
         subst e; exact HBN.out
        ·
         exact hk.out j hj (by omega)), bl⟩
       case measure => simp [intOf]; omega
      case neg =>
      have tE : x1_2[k].toList.isEmpty = false := by have := fun e => h0 (tlE.1 e); simpa using this
      have tEn : (!x1_2[k].toList.isEmpty) = true := by rw [tE]; rfl
      cases hkn : nameB x1_2[k]
      case false => as_aux_lemma =>
       have HKN := hide hkn
       have RR := hide (prog_rt (R := x0) (C := x1) (G := x2) (mn := mn) m h1 (by rw [HRT.out, List.any_eq_true.2 ⟨x1_2[k], List.getElem_mem h2, by unfold badS; rw [hkn, decide_eq_false h0]; rfl⟩]; simp))
       clear hkn h0
       go_wp2_with (go_at_call 44; refine (specIsName_any x1_2[k] _).mono ?_; rintro e wd ⟨rfl, hbd⟩; rw [HKN.out])
       all_goals
        go_returns
        exact ⟨ret_bl RR.out.symm, bl⟩
      case true =>
      have HKN := hide hkn
      have HBN := hide (show badS x1_2[k] = false by unfold badS; rw [hkn]; simp)
      clear hkn h0
      go_wp2_with (go_at_call 44; refine (specIsName_any x1_2[k] _).mono ?_; rintro e wd ⟨rfl, hbd⟩; rw [HKN.out])
      go_roundw
      case rel => exact ⟨k + 1, by go_num, by omega, hide (fun j hj hjm => by
       by_cases e : j = k
       ·
        subst e; exact HBN.out
       ·
        exact hk.out j hj (by omega)), bl⟩
      case measure => simp [intOf]; omega
     case neg =>
     have hd2 : decide ((k : Int) < (x1_2.length : Int)) = false := by simp [h2]
     have HNO := hide (show x1_2.any badS = false from List.any_eq_false.2 fun x hx => by
      obtain ⟨j, hj, rfl⟩ := List.mem_iff_getElem.1 hx
      rw [hk.out j hj (by omega)]; simp)
     have hsl : (x1_2.length : Int) ≤ 1000000000 := by omega
     cases hv : (decide (1 + ((TCore.mk x1_3 x1_4 x1_5 x1_6 x1_7 x1_8).dep : Int) ≤ 401) && (TCore.mk x1_3 x1_4 x1_5 x1_6 x1_7 x1_8).vld (x1_2.length : Int) (x2.length : Int) (x0.length : Int) (x1.length : Int) false false)
     case false => as_aux_lemma =>
      have HV := hide hv
      have RR := hide (prog_rt (R := x0) (C := x1) (G := x2) (mn := mn) m h1 (by
       rw [HRT.out]
       rw [Bool.and_eq_false_iff] at hv
       rcases hv with h | h
       ·
        rw [decide_eq_false_iff_not] at h; rw [decide_eq_false (show ¬ (TCore.mk x1_3 x1_4 x1_5 x1_6 x1_7 x1_8).dep ≤ 400 by omega)]; simp
       ·
        rw [h]; simp))
      clear hv
      go_wp2_with (go_at_call 46; refine (l10Valid_any (TCore.mk x1_3 x1_4 x1_5 x1_6 x1_7 x1_8) S _ _ _ _ _ _ _ _ _ _ _ _ _ _ _ _ (Dat.HoldVals.bel bl HVB.out) (by omega) (by omega) (by omega) (by omega) hsl (by omega) (by omega)).mono ?_; rintro e w5 ⟨rfl, hb5⟩; rw [HV.out])
      all_goals
       go_returns
       exact ⟨ret_bl RR.out.symm, bl⟩
     case true =>
     have HV := hide hv
     have HRY := hide (show rtB (x2.length : Int) (x0.length : Int) (x1.length : Int) x0[m] = true by
      rw [Bool.and_eq_true, decide_eq_true_eq] at hv
      rw [HRT.out, HNB.out, decide_eq_true h24, decide_eq_true hpp.1, decide_eq_true hpp.2, HNO.out, decide_eq_true (show (TCore.mk x1_3 x1_4 x1_5 x1_6 x1_7 x1_8).dep ≤ 400 by omega), hv.2]; rfl)
     clear hv
     have hcn := HCN.out
     have HCT2 := hide (HCT.out.trans (by rw [HBD.out]))
     go_wp2_with (first | (go_at_call 46; refine (l10Valid_any (TCore.mk x1_3 x1_4 x1_5 x1_6 x1_7 x1_8) S _ _ _ _ _ _ _ _ _ _ _ _ _ _ _ _ (Dat.HoldVals.bel bl HVB.out) (by omega) (by omega) (by omega) (by omega) hsl (by omega) (by omega)).mono ?_; rintro e w5 ⟨rfl, hb5⟩; rw [HV.out]; have q3 := HQ3.out _ (show Bel wa w5 from bl); have q4 := HQ4.out _ (show Bel wa w5 from bl); have q5 := HQ5.out _ (show Bel wa w5 from bl); have q6 := HQ6.out _ (show Bel wa w5 from bl); have q7 := HQ7.out _ (show Bel wa w5 from bl); have q8 := HQ8.out _ (show Bel wa w5 from bl)) | (go_at_call 47; refine (specCountCore_any (TCore.mk x1_3 x1_4 x1_5 x1_6 x1_7 x1_8) S _ _ (Dat.HoldVals.bel bl HVB.out) (by have := HCN.out; omega)).mono ?_; rintro e w6 ⟨rfl, hb6⟩))
     go_roundw
     case rel => exact ⟨m + 1, by go_num, by rw [HCT2.out]; go_num, by omega, hide (fun j hj hjm => by
      by_cases e : j = m
      ·
       subst e; exact HRY.out
      ·
       exact hm.out j hj (by omega)), bl⟩
     case measure => simp [intOf]; omega
   case neg =>
   have hd : decide ((m : Int) < (x0.length : Int)) = false := by simp [h1]
   have hmm : m = x0.length := by omega
   subst hmm
   rw [show x0.take x0.length = x0 from List.take_of_length_le (Nat.le_refl _)]
   have RR := hide (prog_end (R := x0) (C := x1) (G := x2) (mn := mn) HA.out (fun j hj => HP_rec.out j hj) (fun j hj => hm.out j hj hj))
   have RZ := hide (show decide (((cntR x0 : Nat) : Int) ≤ 40000) = decide (cntR x0 ≤ 40000) by rw [decide_eq_decide]; omega)
   go_wp2_with (fail)
   all_goals
    go_returns
    exact ⟨ret_bl (by rw [RR.out]; first | exact RZ.out | rfl), bl⟩
end Go.Proofs.YtgofbnmablgedaaGreatDoor
