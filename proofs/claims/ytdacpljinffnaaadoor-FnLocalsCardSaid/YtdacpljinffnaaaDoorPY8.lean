/- Valid units: the program. -/
import Derived.Test.YtdacpljinffnaaaDoorPY6
import Derived.Test.YtdacpljinffnaaaDoorPY5
namespace Go.Proofs.YtdacpljinffnaaaDoor
set_option linter.unusedVariables false
set_option linter.unusedSimpArgs false
set_option maxRecDepth 100000
open Go.RowKit
set_option maxHeartbeats 64000000 in
theorem implUnit_any (t : TUnit) : UnitC 13 t := by
 intro S w vs htab hv hwt
 obtain ⟨x0, x1, x2⟩ := t
 have HT := hide htab
 rw [TUnit.D_mk] at hwt
 simp only [Dat.wtL, Dat.wt, List.length_map] at hwt
 obtain ⟨A0, c0, A1, c1, A2, c2, rfl, g0, g1, g2⟩ := TUnit.vals hv
 have HR0 := hide g0
 have hlc0 := g0.1
 have hcm0 := g0.2.1
 simp only [List.length_map] at hlc0
 unfold maxLen at hcm0
 have HR1 := hide g1
 have hlc1 := g1.1
 have hcm1 := g1.2.1
 simp only [List.length_map] at hlc1
 unfold maxLen at hcm1
 have HR2 := hide g2
 have hlc2 := g2.1
 have hcm2 := g2.2.1
 simp only [List.length_map] at hlc2
 unfold maxLen at hcm2
 have HWR := hide (fun (m : Nat) (h : m < x2.length) => proc_wt h (b := 1048576) (by omega))
 have hn0 : x0.length ≤ 1048576 := by omega
 have hn1 : x1.length ≤ 1048576 := by omega
 have hn2 : x2.length ≤ 1048576 := by omega
 clear hwt hv g0 g1 g2 htab
 obtain ⟨bA, hbA⟩ : ∃ bA, headU x0 x1 x2 = bA := ⟨_, rfl⟩
 have HA := hide hbA
 clear hbA
 go_enter Tryd.func13, Tryd.ntmps13
 go_upto_region 1 with (fail)
 go_cut [28] from 7 (fun v wx => v = .bool (!bA) ∧ Bel (w.alloc (.cells #[.slice A0 x0.length c0, .slice A1 x1.length c1, .slice A2 x2.length c2] 28)) wx)
 case first => as_aux_lemma =>
  by_cases c1 : x0.length ≤ 8
  case neg => as_aux_lemma =>
   have c1f : decide ((8 : Int) < (x0.length : Int)) = true := by simp; omega
   obtain rfl : false = bA := by rw [← HA.out]; unfold headU; rw [decide_eq_false c1]; simp
   clear c1
   go_wp2_with (fail)
   all_goals go_meet
   all_goals exact ⟨rfl, bl⟩
  case pos =>
  have c1f : decide ((8 : Int) < (x0.length : Int)) = false := by simp; omega
  by_cases c3 : x1.length ≤ 12
  case neg => as_aux_lemma =>
   have c3f : decide ((12 : Int) < (x1.length : Int)) = true := by simp; omega
   obtain rfl : false = bA := by rw [← HA.out]; unfold headU; rw [decide_eq_false c3]; simp
   clear c3
   go_wp2_with (fail)
   all_goals go_meet
   all_goals exact ⟨rfl, bl⟩
  case pos =>
  have c3f : decide ((12 : Int) < (x1.length : Int)) = false := by simp; omega
  by_cases c2 : x2.length ≤ 12
  case neg => as_aux_lemma =>
   have c2f : decide ((12 : Int) < (x2.length : Int)) = true := by simp; omega
   obtain rfl : false = bA := by rw [← HA.out]; unfold headU; rw [decide_eq_false c2]; simp
   clear c2
   go_wp2_with (fail)
   all_goals go_meet
   all_goals exact ⟨rfl, bl⟩
  case pos =>
  have c2f : decide ((12 : Int) < (x2.length : Int)) = false := by simp; omega
  cases hnm : x1.all nameB
  case false => as_aux_lemma =>
   have HNM := hide hnm
   obtain rfl : false = bA := by rw [← HA.out]; unfold headU; rw [hnm]; simp
   clear hnm
   go_wp2_with (go_at_call 28; refine (allNames_row x1 S _ _ _ (Row.bel bl HR1.out) (HT.out.on bl)).mono ?_; rintro e w8 ⟨rfl, hb8⟩; rw [HNM.out]; (have hz8 := hb8.sz; obtain ⟨hk8_0, hf8_0, hl8_0, hn8_0⟩ := hb8.lay (w.heap.size)))
   all_goals go_meet
   all_goals exact ⟨rfl, bl⟩
  case true => as_aux_lemma =>
   have HNM := hide hnm
   obtain rfl : true = bA := by rw [← HA.out]; unfold headU; rw [decide_eq_true c1, decide_eq_true c3, decide_eq_true c2, hnm]; rfl
   clear hnm
   go_wp2_with (go_at_call 28; refine (allNames_row x1 S _ _ _ (Row.bel bl HR1.out) (HT.out.on bl)).mono ?_; rintro e w8 ⟨rfl, hb8⟩; rw [HNM.out]; (have hz8 := hb8.sz; obtain ⟨hk8_0, hf8_0, hl8_0, hn8_0⟩ := hb8.lay (w.heap.size)))
   all_goals go_meet
   all_goals exact ⟨rfl, bl⟩
 case rest =>
 obtain ⟨rfl, hbc⟩ := hcut
 have hz0 := hbc.size
 simp only [World.size_alloc] at hz0
 have y0 := hbc.box w.heap.size (by simp)
 have hl0 : w.heap.size < wc.heap.size := by omega
 have hq0 : ¬ w.heap.size = wc.heap.size := by omega
 cases bA
 case false => as_aux_lemma =>
  have RR := hide (unit_head (R := x0) (G := x1) (P := x2) HA.out)
  go_wp2_with (fail)
  all_goals
   go_returns
   exact ⟨ret_bl RR.out.symm, bl⟩
 case true =>
 simp only [Bool.not_true]
 have hA2 := HA.out
 unfold headU at hA2
 simp only [Bool.and_eq_true, decide_eq_true_eq] at hA2
 have h8 : x0.length ≤ 8 := hA2.1.1.1
 have h12 : x2.length ≤ 12 := hA2.1.2
 clear hA2
 go_wp2_with (fail)
 have HWC := hide hbc
 clear hz0 y0 hl0 hq0
 go_loopw [32] (fun v wr => ∃ m : Nat, v = .int .i64 m ∧ m ≤ x0.length ∧ Hid (∀ j (hj : j < x0.length), j < m → recV x0[j] = true) ∧ Bel (w.alloc (.cells #[.slice A0 x0.length c0, .slice A1 x1.length c1, .slice A2 x2.length c2] 28)) wr) (fun v _ => x0.length - (intOf v).toNat)
 case atStart => exact ⟨0, rfl, by omega, fun j _ hj => by omega, HWC.out⟩
 case round => as_aux_lemma =>
  obtain ⟨m, rfl, m1, hm, hbx⟩ := hrel
  have hz0 := hbx.size
  simp only [World.size_alloc] at hz0
  have y0 := hbx.box w.heap.size (by simp)
  have hl0 : w.heap.size < wr.heap.size := by omega
  have hq0 : ¬ w.heap.size = wr.heap.size := by omega
  have hbw : Bel w wr := bl
  have e0 : wr.cell? ⟨w.heap.size, 0, none⟩ = some (.slice A0 x0.length c0) := (y0 0).trans (by simp)
  have e1 : wr.cell? ⟨w.heap.size, 1, none⟩ = some (.slice A1 x1.length c1) := (y0 1).trans (by simp)
  have e2 : wr.cell? ⟨w.heap.size, 2, none⟩ = some (.slice A2 x2.length c2) := (y0 2).trans (by simp)
  clear y0
  by_cases h1 : m < x0.length
  case pos => as_aux_lemma =>
   have hd : decide ((m : Int) < (x0.length : Int)) = true := by simp [h1]
   (obtain ⟨b1, o1, x1_0, x1_1, x1_2, A1_1, C1_1, hA1, hS1, hl1, hx1, hv1, g1_0, g1_1, g1_2, c1_0, c1_1, c1_2⟩ := TRecordType.at HR0.out m h1; subst hA1; have HV1 := hide (Dat.HoldVals.bel hbw hv1); have hh1 := hbw.box b1 hl1; have hw1 := Nat.lt_of_lt_of_le hl1 (Bel.size hbw); replace c1_0 := (hh1 _).trans c1_0; replace c1_1 := (hh1 _).trans c1_1; replace c1_2 := (hh1 _).trans c1_2; have HX1 := hide hx1; have GR1_1 := hide g1_1; clear hh1 hv1 hx1 hS1 g1_1)
   have hne1 : ¬ b1 = wr.heap.size := by omega
   have HRC := hide (show recV x0[m] = (nameB x1_0 && x1_1.all nameB && decide (x1_1.length ≤ 6) && decide (0 ≤ x1_2)) by rw [HX1.out]; rfl)
   have hf := GR1_1.out.1
   have hfm := GR1_1.out.2.1
   simp only [List.length_map] at hf
   unfold maxLen at hfm g1_0
   by_cases hl6 : x1_1.length ≤ 6
   case neg => as_aux_lemma =>
    have hl6f : decide ((6 : Int) < (x1_1.length : Int)) = true := by simp; omega
    have RR := hide (unit_rec (R := x0) (G := x1) (P := x2) m h1 (by rw [HRC.out, decide_eq_false hl6]; simp))
    go_wp2_with (fail)
    all_goals
     go_returns
     exact ⟨ret_bl RR.out.symm, bl⟩
   case pos =>
   have hl6f : decide ((6 : Int) < (x1_1.length : Int)) = false := by simp; omega
   cases hn : nameB x1_0
   case false => as_aux_lemma =>
    have HN := hide hn
    have RR := hide (unit_rec (R := x0) (G := x1) (P := x2) m h1 (by rw [HRC.out, hn]; simp))
    go_wp2_with (go_at_call 29; refine (implIsName_any x1_0 _ (HT.out.on bl)).mono ?_; rintro e wa ⟨rfl, hba⟩; rw [HN.out]; (have hza := hba.sz; obtain ⟨hka_0, hfa_0, hla_0, hna_0⟩ := hba.lay (w.heap.size); obtain ⟨hka_1, hfa_1, hla_1, hna_1⟩ := hba.lay (wr.heap.size); obtain ⟨hka_2, hfa_2, hla_2, hna_2⟩ := hba.lay (b1)))
    all_goals
     go_returns
     exact ⟨ret_bl RR.out.symm, bl⟩
   case true =>
   have HN := hide hn
   clear hn
   cases hf2 : x1_1.all nameB
   case false => as_aux_lemma =>
    have HF2 := hide hf2
    have RR := hide (unit_rec (R := x0) (G := x1) (P := x2) m h1 (by rw [HRC.out, hf2]; simp))
    go_wp2_with (first | (go_at_call 29; refine (implIsName_any x1_0 _ (HT.out.on bl)).mono ?_; rintro e wa ⟨rfl, hba⟩; rw [HN.out]; (have hza := hba.sz; obtain ⟨hka_0, hfa_0, hla_0, hna_0⟩ := hba.lay (w.heap.size); obtain ⟨hka_1, hfa_1, hla_1, hna_1⟩ := hba.lay (wr.heap.size); obtain ⟨hka_2, hfa_2, hla_2, hna_2⟩ := hba.lay (b1))) | (go_at_call 28; (with_reducible refine (allNames_row x1_1 S _ _ _ (Row.bel bl GR1_1.out) (HT.out.on bl)).mono ?_); rintro e wb ⟨rfl, hbb⟩; rw [HF2.out]; (have hzb := hbb.sz; obtain ⟨hkb_0, hfb_0, hlb_0, hnb_0⟩ := hbb.lay (w.heap.size); obtain ⟨hkb_1, hfb_1, hlb_1, hnb_1⟩ := hbb.lay (wr.heap.size); obtain ⟨hkb_2, hfb_2, hlb_2, hnb_2⟩ := hbb.lay (b1))))
    all_goals
     go_returns
     exact ⟨ret_bl RR.out.symm, bl⟩
   case true =>
   have HF2 := hide hf2
   clear hf2
   by_cases hln : 0 ≤ x1_2
   case neg => as_aux_lemma =>
    have hlnf : decide (x1_2 < 0) = true := by simp; omega
    have RR := hide (unit_rec (R := x0) (G := x1) (P := x2) m h1 (by rw [HRC.out, decide_eq_false hln]; simp))
    go_wp2_with (first | (go_at_call 29; refine (implIsName_any x1_0 _ (HT.out.on bl)).mono ?_; rintro e wa ⟨rfl, hba⟩; rw [HN.out]; (have hza := hba.sz; obtain ⟨hka_0, hfa_0, hla_0, hna_0⟩ := hba.lay (w.heap.size); obtain ⟨hka_1, hfa_1, hla_1, hna_1⟩ := hba.lay (wr.heap.size); obtain ⟨hka_2, hfa_2, hla_2, hna_2⟩ := hba.lay (b1))) | (go_at_call 28; (with_reducible refine (allNames_row x1_1 S _ _ _ (Row.bel bl GR1_1.out) (HT.out.on bl)).mono ?_); rintro e wb ⟨rfl, hbb⟩; rw [HF2.out]; (have hzb := hbb.sz; obtain ⟨hkb_0, hfb_0, hlb_0, hnb_0⟩ := hbb.lay (w.heap.size); obtain ⟨hkb_1, hfb_1, hlb_1, hnb_1⟩ := hbb.lay (wr.heap.size); obtain ⟨hkb_2, hfb_2, hlb_2, hnb_2⟩ := hbb.lay (b1))))
    all_goals
     go_returns
     exact ⟨ret_bl RR.out.symm, bl⟩
   case pos =>
   have hlnf : decide (x1_2 < 0) = false := by simp; omega
   have HOK := hide (show recV x0[m] = true by rw [HRC.out, HN.out, HF2.out, decide_eq_true hl6, decide_eq_true hln]; rfl)
   go_wp2_with (first | (go_at_call 29; refine (implIsName_any x1_0 _ (HT.out.on bl)).mono ?_; rintro e wa ⟨rfl, hba⟩; rw [HN.out]; (have hza := hba.sz; obtain ⟨hka_0, hfa_0, hla_0, hna_0⟩ := hba.lay (w.heap.size); obtain ⟨hka_1, hfa_1, hla_1, hna_1⟩ := hba.lay (wr.heap.size); obtain ⟨hka_2, hfa_2, hla_2, hna_2⟩ := hba.lay (b1))) | (go_at_call 28; (with_reducible refine (allNames_row x1_1 S _ _ _ (Row.bel bl GR1_1.out) (HT.out.on bl)).mono ?_); rintro e wb ⟨rfl, hbb⟩; rw [HF2.out]; (have hzb := hbb.sz; obtain ⟨hkb_0, hfb_0, hlb_0, hnb_0⟩ := hbb.lay (w.heap.size); obtain ⟨hkb_1, hfb_1, hlb_1, hnb_1⟩ := hbb.lay (wr.heap.size); obtain ⟨hkb_2, hfb_2, hlb_2, hnb_2⟩ := hbb.lay (b1))))
   go_roundw
   case rel => exact ⟨m + 1, by go_num, by omega, hide (fun j hj hjm => by
    by_cases e : j = m
    ·
     subst e; exact HOK.out
    ·
     exact hm.out j hj (by omega)), bl⟩
   case measure => simp [intOf]; omega
  case neg =>
  have hd : decide ((m : Int) < (x0.length : Int)) = false := by simp [h1]
  have HP_rec := hide (fun j (hj : j < x0.length) => hm.out j hj (by omega))
  clear hm
  go_wp2_with (fail)
  have HWC2 := hide hbx
  clear hbx hz0 hl0 hq0 hbw e0 e1 e2
  go_loopw [61] (fun v wr => ∃ m : Nat, v = .int .i64 m ∧ m ≤ x2.length ∧ Hid (∀ j (hj : j < x2.length), j < m → procB x2[j] = true) ∧ Bel (w.alloc (.cells #[.slice A0 x0.length c0, .slice A1 x1.length c1, .slice A2 x2.length c2] 28)) wr) (fun v _ => x2.length - (intOf v).toNat)
  case atStart => exact ⟨0, rfl, by omega, fun j _ hj => by omega, HWC2.out⟩
  case round => as_aux_lemma =>
   obtain ⟨m, rfl, m1, hm, hbx⟩ := hrel
   have hz0 := hbx.size
   simp only [World.size_alloc] at hz0
   have y0 := hbx.box w.heap.size (by simp)
   have hl0 : w.heap.size < wr.heap.size := by omega
   have hq0 : ¬ w.heap.size = wr.heap.size := by omega
   have hbw : Bel w wr := bl
   have e0 : wr.cell? ⟨w.heap.size, 0, none⟩ = some (.slice A0 x0.length c0) := (y0 0).trans (by simp)
   have e1 : wr.cell? ⟨w.heap.size, 1, none⟩ = some (.slice A1 x1.length c1) := (y0 1).trans (by simp)
   have e2 : wr.cell? ⟨w.heap.size, 2, none⟩ = some (.slice A2 x2.length c2) := (y0 2).trans (by simp)
   clear y0
   by_cases h1 : m < x2.length
   case pos => as_aux_lemma =>
    have hd : decide ((m : Int) < (x2.length : Int)) = true := by simp [h1]
    (obtain ⟨b1, o1, x1_0, x1_1, x1_2, x1_3, x1_4, x1_5, x1_6, x1_7, x1_8, A1_1, C1_1, A1_2, C1_2, A1_7, C1_7, hA1, hS1, hl1, hx1, hv1, g1_0, g1_1, g1_2, g1_3, g1_4, g1_5, g1_6, g1_7, g1_8, c1_0, c1_1, c1_2, c1_3, c1_4, c1_5, c1_6, c1_7, c1_8⟩ := TProcedure.at HR2.out m h1; subst hA1; have HV1 := hide (Dat.HoldVals.bel hbw hv1); have hh1 := hbw.box b1 hl1; have hw1 := Nat.lt_of_lt_of_le hl1 (Bel.size hbw); replace c1_0 := (hh1 _).trans c1_0; replace c1_1 := (hh1 _).trans c1_1; replace c1_2 := (hh1 _).trans c1_2; replace c1_3 := (hh1 _).trans c1_3; replace c1_4 := (hh1 _).trans c1_4; replace c1_5 := (hh1 _).trans c1_5; replace c1_6 := (hh1 _).trans c1_6; replace c1_7 := (hh1 _).trans c1_7; replace c1_8 := (hh1 _).trans c1_8; have HX1 := hide hx1; have GR1_1 := hide g1_1; have GR1_2 := hide g1_2; have GR1_7 := hide g1_7; clear hh1 hv1 hx1 hS1 g1_1 g1_2 g1_7)
    have hne1 : ¬ b1 = wr.heap.size := by omega
    have HRC := hide (show procB x2[m] = (nameB x1_0 && x1_1.all nameB && decide (x1_1.length ≤ 6) && x1_2.all nameB && decide (x1_2.length ≤ 8) && decide (0 ≤ x1_8) && decide (x1_3 = 14) && exprB (TExpr.mk x1_3 x1_4 x1_5 x1_6 x1_7)) by rw [HX1.out]; rfl)
    have HBD := hide (show x2[m].body = (TExpr.mk x1_3 x1_4 x1_5 x1_6 x1_7) by rw [HX1.out]; rfl)
    have HCN := hide (show (TExpr.mk x1_3 x1_4 x1_5 x1_6 x1_7).cnt ≤ 1048577 by rw [← HBD.out]; exact HWR.out m h1)
    have HVB := hide (TExpr.vals_mk g1_3 g1_4 g1_5 g1_6 GR1_7.out)
    have HG0 := hide g1_0
    have HG4 := hide g1_4
    have hf := GR1_1.out.1
    have hfm := GR1_1.out.2.1
    simp only [List.length_map] at hf
    unfold maxLen at hfm g1_0 g1_4
    have hg := GR1_2.out.1
    have hgm := GR1_2.out.2.1
    simp only [List.length_map] at hg
    unfold maxLen at hgm
    by_cases hp6 : x1_1.length ≤ 6
    case neg => as_aux_lemma =>
     have hp6f : decide ((6 : Int) < (x1_1.length : Int)) = true := by simp; omega
     have RR := hide (unit_proc (R := x0) (G := x1) (P := x2) m h1 (by rw [HRC.out, decide_eq_false hp6]; simp))
     go_wp2_with (fail)
     all_goals
      go_returns
      exact ⟨ret_bl RR.out.symm, bl⟩
    case pos =>
    have hp6f : decide ((6 : Int) < (x1_1.length : Int)) = false := by simp; omega
    by_cases hl8 : x1_2.length ≤ 8
    case neg => as_aux_lemma =>
     have hl8f : decide ((8 : Int) < (x1_2.length : Int)) = true := by simp; omega
     have RR := hide (unit_proc (R := x0) (G := x1) (P := x2) m h1 (by rw [HRC.out, decide_eq_false hl8]; simp))
     go_wp2_with (fail)
     all_goals
      go_returns
      exact ⟨ret_bl RR.out.symm, bl⟩
    case pos =>
    have hl8f : decide ((8 : Int) < (x1_2.length : Int)) = false := by simp; omega
    cases hn : nameB x1_0
    case false => as_aux_lemma =>
     have HN := hide hn
     have RR := hide (unit_proc (R := x0) (G := x1) (P := x2) m h1 (by rw [HRC.out, hn]; simp))
     go_wp2_with (go_at_call 29; refine (implIsName_any x1_0 _ (HT.out.on bl)).mono ?_; rintro e wa ⟨rfl, hba⟩; rw [HN.out]; (have hza := hba.sz; obtain ⟨hka_0, hfa_0, hla_0, hna_0⟩ := hba.lay (w.heap.size); obtain ⟨hka_1, hfa_1, hla_1, hna_1⟩ := hba.lay (wr.heap.size); obtain ⟨hka_2, hfa_2, hla_2, hna_2⟩ := hba.lay (b1)))
     all_goals
      go_returns
      exact ⟨ret_bl RR.out.symm, bl⟩
    case true =>
    have HN := hide hn
    clear hn
    cases hpa : x1_1.all nameB
    case false => as_aux_lemma =>
     have HPA := hide hpa
     have RR := hide (unit_proc (R := x0) (G := x1) (P := x2) m h1 (by rw [HRC.out, hpa]; simp))
     go_wp2_with (first | (go_at_call 29; refine (implIsName_any x1_0 _ (HT.out.on bl)).mono ?_; rintro e wa ⟨rfl, hba⟩; rw [HN.out]; (have hza := hba.sz; obtain ⟨hka_0, hfa_0, hla_0, hna_0⟩ := hba.lay (w.heap.size); obtain ⟨hka_1, hfa_1, hla_1, hna_1⟩ := hba.lay (wr.heap.size); obtain ⟨hka_2, hfa_2, hla_2, hna_2⟩ := hba.lay (b1))) | (go_at_call 28; (with_reducible refine (allNames_row x1_1 S _ _ _ (Row.bel bl GR1_1.out) (HT.out.on bl)).mono ?_); rintro e wb ⟨rfl, hbb⟩; rw [HPA.out]; (have hzb := hbb.sz; obtain ⟨hkb_0, hfb_0, hlb_0, hnb_0⟩ := hbb.lay (w.heap.size); obtain ⟨hkb_1, hfb_1, hlb_1, hnb_1⟩ := hbb.lay (wr.heap.size); obtain ⟨hkb_2, hfb_2, hlb_2, hnb_2⟩ := hbb.lay (b1))))
     all_goals
      go_returns
      exact ⟨ret_bl RR.out.symm, bl⟩
    case true =>
    have HPA := hide hpa
    clear hpa
    cases hlo : x1_2.all nameB
    case false => as_aux_lemma =>
     have HLO := hide hlo
     have RR := hide (unit_proc (R := x0) (G := x1) (P := x2) m h1 (by rw [HRC.out, hlo]; simp))
     go_wp2_with (first | (go_at_call 29; refine (implIsName_any x1_0 _ (HT.out.on bl)).mono ?_; rintro e wa ⟨rfl, hba⟩; rw [HN.out]; (have hza := hba.sz; obtain ⟨hka_0, hfa_0, hla_0, hna_0⟩ := hba.lay (w.heap.size); obtain ⟨hka_1, hfa_1, hla_1, hna_1⟩ := hba.lay (wr.heap.size); obtain ⟨hka_2, hfa_2, hla_2, hna_2⟩ := hba.lay (b1))) | (go_at_call 28; (with_reducible refine (allNames_row x1_1 S _ _ _ (Row.bel bl GR1_1.out) (HT.out.on bl)).mono ?_); rintro e wb ⟨rfl, hbb⟩; rw [HPA.out]; (have hzb := hbb.sz; obtain ⟨hkb_0, hfb_0, hlb_0, hnb_0⟩ := hbb.lay (w.heap.size); obtain ⟨hkb_1, hfb_1, hlb_1, hnb_1⟩ := hbb.lay (wr.heap.size); obtain ⟨hkb_2, hfb_2, hlb_2, hnb_2⟩ := hbb.lay (b1))) | (go_at_call 28; (with_reducible refine (allNames_row x1_2 S _ _ _ (Row.bel bl GR1_2.out) (HT.out.on bl)).mono ?_); rintro e wd ⟨rfl, hbd⟩; rw [HLO.out]; (have hzd := hbd.sz; obtain ⟨hkd_0, hfd_0, hld_0, hnd_0⟩ := hbd.lay (w.heap.size); obtain ⟨hkd_1, hfd_1, hld_1, hnd_1⟩ := hbd.lay (wr.heap.size); obtain ⟨hkd_2, hfd_2, hld_2, hnd_2⟩ := hbd.lay (b1))))
     all_goals
      go_returns
      exact ⟨ret_bl RR.out.symm, bl⟩
    case true =>
    have HLO := hide hlo
    clear hlo
    by_cases hln : 0 ≤ x1_8
    case neg => as_aux_lemma =>
     have hlnf : decide (x1_8 < 0) = true := by simp; omega
     have RR := hide (unit_proc (R := x0) (G := x1) (P := x2) m h1 (by rw [HRC.out, decide_eq_false hln]; simp))
     go_wp2_with (first | (go_at_call 29; refine (implIsName_any x1_0 _ (HT.out.on bl)).mono ?_; rintro e wa ⟨rfl, hba⟩; rw [HN.out]; (have hza := hba.sz; obtain ⟨hka_0, hfa_0, hla_0, hna_0⟩ := hba.lay (w.heap.size); obtain ⟨hka_1, hfa_1, hla_1, hna_1⟩ := hba.lay (wr.heap.size); obtain ⟨hka_2, hfa_2, hla_2, hna_2⟩ := hba.lay (b1))) | (go_at_call 28; (with_reducible refine (allNames_row x1_1 S _ _ _ (Row.bel bl GR1_1.out) (HT.out.on bl)).mono ?_); rintro e wb ⟨rfl, hbb⟩; rw [HPA.out]; (have hzb := hbb.sz; obtain ⟨hkb_0, hfb_0, hlb_0, hnb_0⟩ := hbb.lay (w.heap.size); obtain ⟨hkb_1, hfb_1, hlb_1, hnb_1⟩ := hbb.lay (wr.heap.size); obtain ⟨hkb_2, hfb_2, hlb_2, hnb_2⟩ := hbb.lay (b1))) | (go_at_call 28; (with_reducible refine (allNames_row x1_2 S _ _ _ (Row.bel bl GR1_2.out) (HT.out.on bl)).mono ?_); rintro e wd ⟨rfl, hbd⟩; rw [HLO.out]; (have hzd := hbd.sz; obtain ⟨hkd_0, hfd_0, hld_0, hnd_0⟩ := hbd.lay (w.heap.size); obtain ⟨hkd_1, hfd_1, hld_1, hnd_1⟩ := hbd.lay (wr.heap.size); obtain ⟨hkd_2, hfd_2, hld_2, hnd_2⟩ := hbd.lay (b1))))
     all_goals
      go_returns
      exact ⟨ret_bl RR.out.symm, bl⟩
    case pos =>
    have hlnf : decide (x1_8 < 0) = false := by simp; omega
    by_cases hk : x1_3 = 14
    case neg => as_aux_lemma =>
     have hkf : (x1_3 != 14) = true := by simp; exact hk
     have RR := hide (unit_proc (R := x0) (G := x1) (P := x2) m h1 (by rw [HRC.out, decide_eq_false hk]; simp))
     go_wp2_with (first | (go_at_call 29; refine (implIsName_any x1_0 _ (HT.out.on bl)).mono ?_; rintro e wa ⟨rfl, hba⟩; rw [HN.out]; (have hza := hba.sz; obtain ⟨hka_0, hfa_0, hla_0, hna_0⟩ := hba.lay (w.heap.size); obtain ⟨hka_1, hfa_1, hla_1, hna_1⟩ := hba.lay (wr.heap.size); obtain ⟨hka_2, hfa_2, hla_2, hna_2⟩ := hba.lay (b1))) | (go_at_call 28; (with_reducible refine (allNames_row x1_1 S _ _ _ (Row.bel bl GR1_1.out) (HT.out.on bl)).mono ?_); rintro e wb ⟨rfl, hbb⟩; rw [HPA.out]; (have hzb := hbb.sz; obtain ⟨hkb_0, hfb_0, hlb_0, hnb_0⟩ := hbb.lay (w.heap.size); obtain ⟨hkb_1, hfb_1, hlb_1, hnb_1⟩ := hbb.lay (wr.heap.size); obtain ⟨hkb_2, hfb_2, hlb_2, hnb_2⟩ := hbb.lay (b1))) | (go_at_call 28; (with_reducible refine (allNames_row x1_2 S _ _ _ (Row.bel bl GR1_2.out) (HT.out.on bl)).mono ?_); rintro e wd ⟨rfl, hbd⟩; rw [HLO.out]; (have hzd := hbd.sz; obtain ⟨hkd_0, hfd_0, hld_0, hnd_0⟩ := hbd.lay (w.heap.size); obtain ⟨hkd_1, hfd_1, hld_1, hnd_1⟩ := hbd.lay (wr.heap.size); obtain ⟨hkd_2, hfd_2, hld_2, hnd_2⟩ := hbd.lay (b1))))
     all_goals
      go_returns
      exact ⟨ret_bl RR.out.symm, bl⟩
    case pos =>
    have hkf : (x1_3 != 14) = false := by simp; exact hk
    have HK := hide (decide_eq_true hk)
    clear hk
    cases hex : exprB (TExpr.mk x1_3 x1_4 x1_5 x1_6 x1_7)
    case false => as_aux_lemma =>
     have HEX := hide hex
     have RR := hide (unit_proc (R := x0) (G := x1) (P := x2) m h1 (by rw [HRC.out, hex]; simp))
     go_wp2_with (first | (go_at_call 29; refine (implIsName_any x1_0 _ (HT.out.on bl)).mono ?_; rintro e wa ⟨rfl, hba⟩; rw [HN.out]; (have hza := hba.sz; obtain ⟨hka_0, hfa_0, hla_0, hna_0⟩ := hba.lay (w.heap.size); obtain ⟨hka_1, hfa_1, hla_1, hna_1⟩ := hba.lay (wr.heap.size); obtain ⟨hka_2, hfa_2, hla_2, hna_2⟩ := hba.lay (b1))) | (go_at_call 28; (with_reducible refine (allNames_row x1_1 S _ _ _ (Row.bel bl GR1_1.out) (HT.out.on bl)).mono ?_); rintro e wb ⟨rfl, hbb⟩; rw [HPA.out]; (have hzb := hbb.sz; obtain ⟨hkb_0, hfb_0, hlb_0, hnb_0⟩ := hbb.lay (w.heap.size); obtain ⟨hkb_1, hfb_1, hlb_1, hnb_1⟩ := hbb.lay (wr.heap.size); obtain ⟨hkb_2, hfb_2, hlb_2, hnb_2⟩ := hbb.lay (b1))) | (go_at_call 28; (with_reducible refine (allNames_row x1_2 S _ _ _ (Row.bel bl GR1_2.out) (HT.out.on bl)).mono ?_); rintro e wd ⟨rfl, hbd⟩; rw [HLO.out]; (have hzd := hbd.sz; obtain ⟨hkd_0, hfd_0, hld_0, hnd_0⟩ := hbd.lay (w.heap.size); obtain ⟨hkd_1, hfd_1, hld_1, hnd_1⟩ := hbd.lay (wr.heap.size); obtain ⟨hkd_2, hfd_2, hld_2, hnd_2⟩ := hbd.lay (b1))) | (go_at_call 30; refine (implIsValidExpr_any (TExpr.mk x1_3 x1_4 x1_5 x1_6 x1_7) S _ _ (HT.out.on bl) (Dat.HoldVals.bel bl HVB.out) (by have := HCN.out; omega)).mono ?_; rintro e we ⟨rfl, hbe⟩; rw [HEX.out]))
     all_goals
      go_returns
      exact ⟨ret_bl RR.out.symm, bl⟩
    case true =>
    have HEX := hide hex
    clear hex
    have HOK := hide (show procB x2[m] = true by rw [HRC.out, HN.out, HPA.out, decide_eq_true hp6, HLO.out, decide_eq_true hl8, decide_eq_true hln, HK.out, HEX.out]; rfl)
    go_wp2_with (first | (go_at_call 29; refine (implIsName_any x1_0 _ (HT.out.on bl)).mono ?_; rintro e wa ⟨rfl, hba⟩; rw [HN.out]; (have hza := hba.sz; obtain ⟨hka_0, hfa_0, hla_0, hna_0⟩ := hba.lay (w.heap.size); obtain ⟨hka_1, hfa_1, hla_1, hna_1⟩ := hba.lay (wr.heap.size); obtain ⟨hka_2, hfa_2, hla_2, hna_2⟩ := hba.lay (b1))) | (go_at_call 28; (with_reducible refine (allNames_row x1_1 S _ _ _ (Row.bel bl GR1_1.out) (HT.out.on bl)).mono ?_); rintro e wb ⟨rfl, hbb⟩; rw [HPA.out]; (have hzb := hbb.sz; obtain ⟨hkb_0, hfb_0, hlb_0, hnb_0⟩ := hbb.lay (w.heap.size); obtain ⟨hkb_1, hfb_1, hlb_1, hnb_1⟩ := hbb.lay (wr.heap.size); obtain ⟨hkb_2, hfb_2, hlb_2, hnb_2⟩ := hbb.lay (b1))) | (go_at_call 28; (with_reducible refine (allNames_row x1_2 S _ _ _ (Row.bel bl GR1_2.out) (HT.out.on bl)).mono ?_); rintro e wd ⟨rfl, hbd⟩; rw [HLO.out]; (have hzd := hbd.sz; obtain ⟨hkd_0, hfd_0, hld_0, hnd_0⟩ := hbd.lay (w.heap.size); obtain ⟨hkd_1, hfd_1, hld_1, hnd_1⟩ := hbd.lay (wr.heap.size); obtain ⟨hkd_2, hfd_2, hld_2, hnd_2⟩ := hbd.lay (b1))) | (go_at_call 30; refine (implIsValidExpr_any (TExpr.mk x1_3 x1_4 x1_5 x1_6 x1_7) S _ _ (HT.out.on bl) (Dat.HoldVals.bel bl HVB.out) (by have := HCN.out; omega)).mono ?_; rintro e we ⟨rfl, hbe⟩; rw [HEX.out]))
    go_roundw
    case rel => exact ⟨m + 1, by go_num, by omega, hide (fun j hj hjm => by
     by_cases e : j = m
     ·
      subst e; exact HOK.out
     ·
      exact hm.out j hj (by omega)), bl⟩
    case measure => simp [intOf]; omega
   case neg =>
   have hd : decide ((m : Int) < (x2.length : Int)) = false := by simp [h1]
   have RR := hide (unit_yes (R := x0) (G := x1) (P := x2) HA.out (fun j hj => HP_rec.out j hj) (fun j hj => hm.out j hj (by omega)))
   go_wp2_with (fail)
   all_goals
    go_returns
    exact ⟨ret_bl RR.out.symm, bl⟩
end Go.Proofs.YtdacpljinffnaaaDoor
