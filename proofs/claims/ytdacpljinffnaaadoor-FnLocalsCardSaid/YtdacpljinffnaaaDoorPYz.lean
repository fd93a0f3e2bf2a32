/- CheckUnit: the reference. -/
import Derived.Test.YtdacpljinffnaaaDoorPYy
namespace Go.Proofs.YtdacpljinffnaaaDoor
set_option linter.unusedVariables false
set_option linter.unusedSimpArgs false
set_option maxRecDepth 100000
open Go.RowKit
theorem l9Find_ownB {wB w : World} {v : Value} {xs : List ByteArray} (h : OwnS wB w v xs) (x : ByteArray) : Calls Tryd.prog 18 #[v, .string x] w fun e w' => e = .returned (.int .i64 (Lib.idxOfS xs x)) ∧ Bel w w' := (l9Find_own h x).mono fun _ _ ⟨h1, h2⟩ => ⟨h1, h2 ▸ Bel.refl w⟩
theorem OwnS.cast {wB w : World} {v : Value} {xs ys : List ByteArray} (h : OwnS wB w v xs) (e : xs = ys) : OwnS wB w v ys := e ▸ h
set_option maxHeartbeats 16000000 in
theorem specChk_of (hUnit : ∀ t, UnitC 15 t) : ChkC 8 := by
 have HUN := hide hUnit
 have HLO := hide (specLoc_of hUnit)
 clear hUnit
 have HFL := hide funL_len
 have hfl := funL_len
 have HFS := hide funL_size
 intro R G P S w us hsp hu hwt
 have HT := hide hsp
 have HU := hide hu
 have HWT := hide hwt
 obtain ⟨A0, c0, A1, c1, A2, c2, rfl, g0, g1, g2⟩ := TUnit.vals hu
 have HR0 := hide g0
 have hl0 := g0.1
 have hc0 := g0.2.1
 simp only [List.length_map] at hl0
 unfold maxLen at hc0
 have HR1 := hide g1
 have hl1 := g1.1
 have hc1 := g1.2.1
 simp only [List.length_map] at hl1
 unfold maxLen at hc1
 have HR2 := hide g2
 have hl2 := g2.1
 have hc2 := g2.2.1
 simp only [List.length_map] at hl2
 unfold maxLen at hc2
 clear hsp hu hwt g0 g1 g2
 cases hval : unitB (TUnit.mk R G P)
 case false => as_aux_lemma =>
  have HVAL := hide hval
  have RR := hide (chkU_no hval)
  clear hval
  go_enter Tryd.func8, Tryd.ntmps8
  go_wp2_with (go_at_call 15; refine (HUN.out (TUnit.mk R G P) S _ _ (HT.out.on bl) (Dat.HoldVals.bel bl HU.out) HWT.out).mono ?_; rintro e w1 ⟨rfl, hb1⟩; rw [HVAL.out]; (have hz1 := hb1.sz; obtain ⟨hk1_0, hf1_0, hl1_0, hn1_0⟩ := hb1.lay (w.heap.size)))
  all_goals
   go_returns
   exact ⟨ret_pair RR.out, bl⟩
 case true =>
 have HVAL := hide hval
 have HNO := hide (names_ok hval)
 have hR8 := HNO.out.1
 have hG12 := HNO.out.2.1
 have hP12 := HNO.out.2.2.1
 clear hval
 obtain ⟨i0, hi0, iz0, iz1, iz2⟩ := info_parts infoStr
 go_enter Tryd.func8, Tryd.ntmps8
 go_upto_region 4 with (first | (go_at_call 15; refine (HUN.out (TUnit.mk R G P) S _ _ (HT.out.on bl) (Dat.HoldVals.bel bl HU.out) HWT.out).mono ?_; rintro e w1 ⟨rfl, hb1⟩; rw [HVAL.out]; (have hz1 := hb1.sz; obtain ⟨hk1_0, hf1_0, hl1_0, hn1_0⟩ := hb1.lay (w.heap.size))) | (go_at_call 17; refine (l9Functions_any _).mono ?_; rintro e w2 ⟨rfl, rfl⟩))
 have hbF : Bel w1 (w1.alloc (.cells (funL.map Value.string).toArray 9)) := bl
 have hoF : OwnS w (w1.alloc (.cells (funL.map Value.string).toArray 9)) (.slice (some ⟨w1.heap.size, 0, none⟩) funL.length funL.length) funL := OwnS.strs (Bel.trans (show Bel w (w.alloc (.cells #[.slice A0 R.length c0, .slice A1 G.length c1, .slice A2 P.length c2] 28)) from bl) hb1) funL HFS.out (by rw [HFL.out]; unfold maxLen; omega)
 have hkF : Kept (w.alloc (.cells #[.slice A0 R.length c0, .slice A1 G.length c1, .slice A2 P.length c2] 28)) (w1.alloc (.cells (funL.map Value.string).toArray 9)) := Kept.ofBel (Bel.trans hb1 hbF)
 have HOF := hide hoF
 have HKF := hide hkF
 clear hoF hkF
 have huI := heap_alloc_new w (.cells #[.slice A0 R.length c0, .slice A1 G.length c1, .slice A2 P.length c2] 28)
 have HUI := hide huI
 clear huI
 have hbF2 : Bel w (w1.alloc (.cells (funL.map Value.string).toArray 9)) := Bel.trans (show Bel w (w.alloc (.cells #[.slice A0 R.length c0, .slice A1 G.length c1, .slice A2 P.length c2] 28)) from bl) (Bel.trans hb1 hbF)
 go_wp2_with (fail)
 go_loopw [4, 5] (fun lv iv wr => ∃ (m : Nat) (seen : List ByteArray), iv = .int .i64 m ∧ m ≤ R.length ∧ Hid (nmR G P [] R = nmR G P seen (R.drop m)) ∧ seen.length ≤ m ∧ OwnS w wr lv (funL ++ seen) ∧ Bel w wr ∧ Kept (w.alloc (.cells #[.slice A0 R.length c0, .slice A1 G.length c1, .slice A2 P.length c2] 28)) wr) (fun _ iv _ => R.length - (intOf iv).toNat)
 case atStart => exact ⟨0, [], rfl, by omega, hide (by rw [List.drop_zero]), by simp, OwnS.cast (OwnS.bel HOF.out bl) (List.append_nil _).symm, Bel.trans hbF2 bl, Kept.trans HKF.out (Kept.ofBel bl)⟩
 case round => as_aux_lemma =>
  clear hbF hbF2 HOF HKF
  obtain ⟨m, seen, rfl, hm, hinv, hse, hol, hbx, hkw⟩ := hrel
  have HOL := hide hol
  have HKW := hide hkw
  have hbw : Bel w wr := hbx
  have hsz := hkw.1
  simp only [World.size_alloc] at hsz
  have xu := Kept.box hkw HUI.out (by decide)
  have uu0 : wr.cell? ⟨w.heap.size, 0, none⟩ = some (.slice A0 R.length c0) := (xu 0).trans (by simp)
  have uu1 : wr.cell? ⟨w.heap.size, 1, none⟩ = some (.slice A1 G.length c1) := (xu 1).trans (by simp)
  have uu2 : wr.cell? ⟨w.heap.size, 2, none⟩ = some (.slice A2 P.length c2) := (xu 2).trans (by simp)
  have hq0 : w.heap.size < wr.heap.size := by omega
  have hq1 : ¬ w.heap.size = wr.heap.size := by omega
  clear hol hkw xu
  by_cases h1 : m < R.length
  case neg => as_aux_lemma =>
   have hd : decide ((m : Int) < (R.length : Int)) = false := by simp; omega
   have hdn : decide (m < R.length) = false := by simp; omega
   have HIN := hide (hinv.out.trans (nmR_end (by omega)))
   clear hinv
   go_wp2_with (fail)
   go_loopw [4, 6] (fun lv iv wr => ∃ (m : Nat) (seen : List ByteArray), iv = .int .i64 m ∧ m ≤ G.length ∧ Hid (nmR G P [] R = nmG P seen (G.drop m)) ∧ seen.length ≤ 8 + m ∧ OwnS w wr lv (funL ++ seen) ∧ Bel w wr ∧ Kept (w.alloc (.cells #[.slice A0 R.length c0, .slice A1 G.length c1, .slice A2 P.length c2] 28)) wr) (fun _ iv _ => G.length - (intOf iv).toNat)
   case atStart => exact ⟨0, seen, rfl, by omega, hide HIN.out, by omega, OwnS.bel HOL.out bl, bl, Kept.trans HKW.out (Kept.ofBel bl)⟩
   case round => as_aux_lemma =>
    clear HOL HKW HIN hbw hsz uu0 uu1 uu2 hq0 hq1 h1 hd hdn hse hbx hm
    obtain ⟨m, seen, rfl, hm, hinv, hse, hol, hbx, hkw⟩ := hrel
    have HOL := hide hol
    have HKW := hide hkw
    have hbw : Bel w wr := hbx
    have hsz := hkw.1
    simp only [World.size_alloc] at hsz
    have xu := Kept.box hkw HUI.out (by decide)
    have uu0 : wr.cell? ⟨w.heap.size, 0, none⟩ = some (.slice A0 R.length c0) := (xu 0).trans (by simp)
    have uu1 : wr.cell? ⟨w.heap.size, 1, none⟩ = some (.slice A1 G.length c1) := (xu 1).trans (by simp)
    have uu2 : wr.cell? ⟨w.heap.size, 2, none⟩ = some (.slice A2 P.length c2) := (xu 2).trans (by simp)
    have hq0 : w.heap.size < wr.heap.size := by omega
    have hq1 : ¬ w.heap.size = wr.heap.size := by omega
    clear hol hkw xu
    by_cases h1 : m < G.length
    case neg => as_aux_lemma =>
     have hd : decide ((m : Int) < (G.length : Int)) = false := by simp; omega
     have hdn : decide (m < G.length) = false := by simp; omega
     have HIN := hide (hinv.out.trans (nmG_end (by omega)))
     clear hinv
     go_wp2_with (fail)
     go_loopw [4, 7] (fun lv iv wr => ∃ (m : Nat) (seen : List ByteArray), iv = .int .i64 m ∧ m ≤ P.length ∧ Hid (nmR G P [] R = nmP seen (P.drop m)) ∧ seen.length ≤ 20 + m ∧ OwnS w wr lv (funL ++ seen) ∧ Bel w wr ∧ Kept (w.alloc (.cells #[.slice A0 R.length c0, .slice A1 G.length c1, .slice A2 P.length c2] 28)) wr) (fun _ iv _ => P.length - (intOf iv).toNat)
     case atStart => exact ⟨0, seen, rfl, by omega, hide HIN.out, by omega, OwnS.bel HOL.out bl, bl, Kept.trans HKW.out (Kept.ofBel bl)⟩
     case round => as_aux_lemma =>
      clear HOL HKW HIN hbw hsz uu0 uu1 uu2 hq0 hq1 h1 hd hdn hse hbx hm
      obtain ⟨m, seen, rfl, hm, hinv, hse, hol, hbx, hkw⟩ := hrel
      have HOL := hide hol
      have HKW := hide hkw
      have hbw : Bel w wr := hbx
      have hsz := hkw.1
      simp only [World.size_alloc] at hsz
      have xu := Kept.box hkw HUI.out (by decide)
      have uu0 : wr.cell? ⟨w.heap.size, 0, none⟩ = some (.slice A0 R.length c0) := (xu 0).trans (by simp)
      have uu1 : wr.cell? ⟨w.heap.size, 1, none⟩ = some (.slice A1 G.length c1) := (xu 1).trans (by simp)
      have uu2 : wr.cell? ⟨w.heap.size, 2, none⟩ = some (.slice A2 P.length c2) := (xu 2).trans (by simp)
      have hq0 : w.heap.size < wr.heap.size := by omega
      have hq1 : ¬ w.heap.size = wr.heap.size := by omega
      clear hol hkw xu
      by_cases h1 : m < P.length
      case neg => as_aux_lemma =>
       have hd : decide ((m : Int) < (P.length : Int)) = false := by simp; omega
       have hdn : decide (m < P.length) = false := by simp; omega
       have HIN := hide (hinv.out.trans (nmP_end (by omega)))
       clear hinv
       go_wp2_with (fail)
       have HGO := hide (chkU_go HVAL.out HIN.out)
       have hbW0 : Kept (w.alloc (.cells #[.slice A0 R.length c0, .slice A1 G.length c1, .slice A2 P.length c2] 28)) wr := HKW.out
       go_loopw [9, 10] (fun bv iv wx => ∃ (m : Nat) (mb : Bool), iv = .int .i64 m ∧ bv = .bool mb ∧ m ≤ P.length ∧ Hid (mb = (P.take m).any mainQ) ∧ Hid (chkU R G P = chQ R G P (P.drop m)) ∧ Bel wr wx) (fun _ iv _ => P.length - (intOf iv).toNat)
       case atStart => exact ⟨0, false, rfl, rfl, by omega, hide (by simp), hide HGO.out, bl⟩
       case round => as_aux_lemma =>
        clear HIN HGO h1 hd hdn hse hm hbW0 HOL
        obtain ⟨m, mb, rfl, rfl, hm, hmb, hinv, hbz⟩ := hrel
        have hzz := hbz.size
        have vv0 := (hbz.box w.heap.size hq0 0).trans uu0
        have vv1 := (hbz.box w.heap.size hq0 1).trans uu1
        have vv2 := (hbz.box w.heap.size hq0 2).trans uu2
        have hbw4 : Bel w _ := Bel.trans hbw hbz
        clear uu0 uu1 uu2 hbx
        have hr0 : w.heap.size < wr.heap.size := by omega
        have hr1 : ¬ w.heap.size = wr.heap.size := by omega
        clear hq0 hq1 hzz HKW hsz hbw
        have hbw := hbw4
        clear hbw4
        by_cases h1 : m < P.length
        case neg => as_aux_lemma =>
         have hd : decide ((m : Int) < (P.length : Int)) = false := by simp; omega
         have hdn : decide (m < P.length) = false := by simp; omega
         have HIN := hide (hinv.out.trans (chQ_end (by omega)))
         have HMB := hide (show mb = P.any mainQ by rw [hmb.out, List.take_of_length_le (by omega)])
         clear hinv hmb
         cases mb
         case true =>
          have RR := hide (show chkU R G P = (0, 0) by rw [HIN.out, ← HMB.out]; rfl)
          go_wp2_with (fail)
          all_goals
           go_returns
           exact ⟨ret_pair RR.out, bl⟩
         case false =>
          have RR := hide (show chkU R G P = (3, 0) by rw [HIN.out, ← HMB.out]; rfl)
          go_wp2_with (fail)
          all_goals
           go_returns
           exact ⟨ret_pair RR.out, bl⟩
        case pos =>
        have hd : decide ((m : Int) < (P.length : Int)) = true := by simp; omega
        have hdn : decide (m < P.length) = true := by simp; omega
        have hle0 := hr0
        have HPP := hide (proc_parts (proc_ok HVAL.out h1))
        (obtain ⟨b1, o1, x1_0, x1_1, x1_2, x1_3, x1_4, x1_5, x1_6, x1_7, x1_8, A1_1, C1_1, A1_2, C1_2, A1_7, C1_7, hA1, hS1, hl1, hx1, hv1, g1_0, g1_1, g1_2, g1_3, g1_4, g1_5, g1_6, g1_7, g1_8, c1_0, c1_1, c1_2, c1_3, c1_4, c1_5, c1_6, c1_7, c1_8⟩ := TProcedure.at HR2.out m h1; subst hA1; have HV1 := hide (Dat.HoldVals.bel hbw hv1); have hh1 := hbw.box b1 hl1; have hw1 := Nat.lt_of_lt_of_le hl1 (Bel.size hbw); replace c1_0 := (hh1 _).trans c1_0; replace c1_1 := (hh1 _).trans c1_1; replace c1_2 := (hh1 _).trans c1_2; replace c1_3 := (hh1 _).trans c1_3; replace c1_4 := (hh1 _).trans c1_4; replace c1_5 := (hh1 _).trans c1_5; replace c1_6 := (hh1 _).trans c1_6; replace c1_7 := (hh1 _).trans c1_7; replace c1_8 := (hh1 _).trans c1_8; have HX1 := hide hx1; have GR1_1 := hide g1_1; have GR1_2 := hide g1_2; have GR1_7 := hide g1_7; clear hh1 hv1 hx1 hS1 g1_1 g1_2 g1_7)
        have hne1 : ¬ b1 = wr.heap.size := by omega
        have HQ1 := hide (show P[m].nm = x1_0 ∧ P[m].pars = x1_1 ∧ P[m].body = (TExpr.mk x1_3 x1_4 x1_5 x1_6 x1_7) ∧ P[m].line = x1_8 by rw [HX1.out]; exact ⟨rfl, rfl, rfl, rfl⟩)
        have HVB := hide (TExpr.vals_mk g1_3 g1_4 g1_5 g1_6 GR1_7.out)
        have HCB := hide (show (TExpr.mk x1_3 x1_4 x1_5 x1_6 x1_7).cnt ≤ 600 by have h := HPP.out.2.2.2.1; rw [HQ1.out.2.2.1] at h; exact h)
        obtain ⟨LL, hLL⟩ : ∃ LL, locL R G P P[m] = LL := ⟨_, rfl⟩
        have HLL := hide hLL
        have hll : LL.length ≤ 700 := by rw [← hLL, ← loc_in HVAL.out h1]; exact locF_len R G P m
        obtain ⟨cs, hcs⟩ : ∃ cs, (TExpr.mk x1_3 x1_4 x1_5 x1_6 x1_7).cas = cs := ⟨_, rfl⟩
        have HCS := hide hcs
        have hcsb : cs ≤ 600 := by rw [← hcs]; exact Nat.le_trans (TExpr.cas_le _) HCB.out
        obtain ⟨q, hq⟩ : ∃ q, (TExpr.mk x1_3 x1_4 x1_5 x1_6 x1_7).chk (isL R G P P[m]) (isG R G P) (isF R) false false = q := ⟨_, rfl⟩
        obtain ⟨qc, ql⟩ := q
        have HQ := hide hq
        have HNX := hide (show chkU R G P = if qc = 0 then (if LL.length + cs > 24 then (7, x1_8) else chQ R G P (P.drop (m + 1))) else (qc, ql) by
         have h := hinv.out
         rw [chQ_at h1] at h
         rw [h]
         unfold chkQ
         rw [hLL, HQ1.out.2.2.1, HQ1.out.2.2.2, hcs, hq])
        clear hLL hcs hq hinv
        have HMQ := hide (mainQ_eq HQ1.out.1 HQ1.out.2.1)
        have HMX := hide (any_take_hit mainQ P m h1 mb hmb.out)
        clear hmb
        have HQL := hide (show (TExpr.mk x1_3 x1_4 x1_5 x1_6 x1_7).chk (lF LL) (isG R G P) (isF R) false false = (qc, ql) by have h := HQ.out; rw [show isL R G P P[m] = lF LL by rw [← HLL.out]; rfl] at h; exact h)
        by_cases hqc : qc = 0
        case neg => as_aux_lemma =>
         have hqb : (qc != 0) = true := by simpa using hqc
         have RR := hide (show chkU R G P = (qc, ql) by rw [HNX.out, if_neg hqc])
         go_wp2_with (first | (go_at_call 7; refine (HLO.out R G P m h1 S _ _ (HT.out.on bl) (Dat.HoldVals.bel bl HU.out) HWT.out HVAL.out).mono ?_; rintro e w4 ⟨v4, rfl, ho4, hb4⟩; rw [HLL.out] at ho4; obtain ⟨LA, lc, rfl, hrow⟩ := OwnS.row ho4; have HRW := hide hrow; clear ho4 hrow; (have hz4 := hb4.sz; obtain ⟨hk4_0, hf4_0, hl4_0, hn4_0⟩ := hb4.lay (w.heap.size); obtain ⟨hk4_1, hf4_1, hl4_1, hn4_1⟩ := hb4.lay (wr.heap.size))) | (go_at_call 20; refine (l9Walk_any (TExpr.mk x1_3 x1_4 x1_5 x1_6 x1_7) R G P LL S _ _ _ _ _ false false (HT.out.on bl) (Dat.HoldVals.bel bl HU.out) (Dat.HoldVals.bel bl HVB.out) (Row.bel bl HRW.out)).mono ?_; rintro e w5 ⟨rfl, hb5⟩; rw [HQL.out]; (have hz5 := hb5.sz; obtain ⟨hk5_0, hf5_0, hl5_0, hn5_0⟩ := hb5.lay (w.heap.size); obtain ⟨hk5_1, hf5_1, hl5_1, hn5_1⟩ := hb5.lay (wr.heap.size))))
         all_goals
          go_returns
          exact ⟨ret_pair RR.out, bl⟩
        case pos =>
        subst hqc
        have HNX2 := hide (HNX.out.trans (if_pos rfl))
        by_cases hbig : LL.length + cs > 24
        case pos => as_aux_lemma =>
         have hbg : decide ((24 : Int) < (LL.length : Int) + (cs : Int)) = true := by simp; omega
         have hww : IntKind.i64.wrap ((LL.length : Int) + (cs : Int)) = (LL.length : Int) + (cs : Int) := by rw [IntKind.wrap_i64]; omega
         have RR := hide (show chkU R G P = (7, x1_8) from HNX2.out.trans (if_pos hbig))
         go_wp2_with (first | (go_at_call 7; refine (HLO.out R G P m h1 S _ _ (HT.out.on bl) (Dat.HoldVals.bel bl HU.out) HWT.out HVAL.out).mono ?_; rintro e w4 ⟨v4, rfl, ho4, hb4⟩; rw [HLL.out] at ho4; obtain ⟨LA, lc, rfl, hrow⟩ := OwnS.row ho4; have HRW := hide hrow; clear ho4 hrow; (have hz4 := hb4.sz; obtain ⟨hk4_0, hf4_0, hl4_0, hn4_0⟩ := hb4.lay (w.heap.size); obtain ⟨hk4_1, hf4_1, hl4_1, hn4_1⟩ := hb4.lay (wr.heap.size))) | (go_at_call 20; refine (l9Walk_any (TExpr.mk x1_3 x1_4 x1_5 x1_6 x1_7) R G P LL S _ _ _ _ _ false false (HT.out.on bl) (Dat.HoldVals.bel bl HU.out) (Dat.HoldVals.bel bl HVB.out) (Row.bel bl HRW.out)).mono ?_; rintro e w5 ⟨rfl, hb5⟩; rw [HQL.out]; (have hz5 := hb5.sz; obtain ⟨hk5_0, hf5_0, hl5_0, hn5_0⟩ := hb5.lay (w.heap.size); obtain ⟨hk5_1, hf5_1, hl5_1, hn5_1⟩ := hb5.lay (wr.heap.size))) | (go_at_call 21; refine (l9Cases_any (TExpr.mk x1_3 x1_4 x1_5 x1_6 x1_7) S _ _ (Dat.HoldVals.bel bl HVB.out) (by have := HCB.out; omega)).mono ?_; rintro e w6 ⟨rfl, hb6⟩; rw [HCS.out]; (have hz6 := hb6.sz; obtain ⟨hk6_0, hf6_0, hl6_0, hn6_0⟩ := hb6.lay (w.heap.size); obtain ⟨hk6_1, hf6_1, hl6_1, hn6_1⟩ := hb6.lay (wr.heap.size))))
         all_goals (try (go_quiet (fail)))
         all_goals (try (go_wp2_with (fail)))
         all_goals
          go_returns
          exact ⟨ret_pair RR.out, bl⟩
        case neg =>
        have hbg : decide ((24 : Int) < (LL.length : Int) + (cs : Int)) = false := by simp; omega
        have hww : IntKind.i64.wrap ((LL.length : Int) + (cs : Int)) = (LL.length : Int) + (cs : Int) := by rw [IntKind.wrap_i64]; omega
        have HN3 := hide (show chkU R G P = chQ R G P (P.drop (m + 1)) from HNX2.out.trans (if_neg hbig))
        have hnmS : x1_0 = mainS ∨ ¬ x1_0 = mainS := by by_cases h : x1_0 = mainS; exact Or.inl h; exact Or.inr h
        cases mb
        case true => as_aux_lemma =>
         have HMV := hide (show true = (P.take (m + 1)).any mainQ by rw [← HMX.out]; rfl)
         go_wp2_with (first | (go_at_call 7; refine (HLO.out R G P m h1 S _ _ (HT.out.on bl) (Dat.HoldVals.bel bl HU.out) HWT.out HVAL.out).mono ?_; rintro e w4 ⟨v4, rfl, ho4, hb4⟩; rw [HLL.out] at ho4; obtain ⟨LA, lc, rfl, hrow⟩ := OwnS.row ho4; have HRW := hide hrow; clear ho4 hrow; (have hz4 := hb4.sz; obtain ⟨hk4_0, hf4_0, hl4_0, hn4_0⟩ := hb4.lay (w.heap.size); obtain ⟨hk4_1, hf4_1, hl4_1, hn4_1⟩ := hb4.lay (wr.heap.size))) | (go_at_call 20; refine (l9Walk_any (TExpr.mk x1_3 x1_4 x1_5 x1_6 x1_7) R G P LL S _ _ _ _ _ false false (HT.out.on bl) (Dat.HoldVals.bel bl HU.out) (Dat.HoldVals.bel bl HVB.out) (Row.bel bl HRW.out)).mono ?_; rintro e w5 ⟨rfl, hb5⟩; rw [HQL.out]; (have hz5 := hb5.sz; obtain ⟨hk5_0, hf5_0, hl5_0, hn5_0⟩ := hb5.lay (w.heap.size); obtain ⟨hk5_1, hf5_1, hl5_1, hn5_1⟩ := hb5.lay (wr.heap.size))) | (go_at_call 21; refine (l9Cases_any (TExpr.mk x1_3 x1_4 x1_5 x1_6 x1_7) S _ _ (Dat.HoldVals.bel bl HVB.out) (by have := HCB.out; omega)).mono ?_; rintro e w6 ⟨rfl, hb6⟩; rw [HCS.out]; (have hz6 := hb6.sz; obtain ⟨hk6_0, hf6_0, hl6_0, hn6_0⟩ := hb6.lay (w.heap.size); obtain ⟨hk6_1, hf6_1, hl6_1, hn6_1⟩ := hb6.lay (wr.heap.size))))
         all_goals go_roundw
         case rel => exact ⟨m + 1, true, by go_num, rfl, by omega, hide HMV.out, hide HN3.out, bl⟩
         case measure => simp [intOf]; omega
        case false =>
        by_cases hnm : x1_0 = mainS
        case pos =>
         have hnb : (x1_0.toList == mainS.toList) = true := by rw [hnm]; simp
         have hnl : x1_0.toList = [109, 97, 105, 110] := by rw [hnm]; exact mainS_list
         unfold mainS at hnb
         by_cases hp : x1_1.length = 0
         case pos => as_aux_lemma =>
          have hpb : ((x1_1.length : Int) == 0) = true := by rw [hp]; rfl
          have hpn : (x1_1.length == 0) = true := by rw [hp]; rfl
          have hpe : x1_1 = [] := List.eq_nil_of_length_eq_zero hp
          have HMV := hide (show true = (P.take (m + 1)).any mainQ by rw [← HMX.out, HMQ.out, decide_eq_true hnm, decide_eq_true hp]; rfl)
          clear hnm
          go_wp2_with (first | (go_at_call 7; refine (HLO.out R G P m h1 S _ _ (HT.out.on bl) (Dat.HoldVals.bel bl HU.out) HWT.out HVAL.out).mono ?_; rintro e w4 ⟨v4, rfl, ho4, hb4⟩; rw [HLL.out] at ho4; obtain ⟨LA, lc, rfl, hrow⟩ := OwnS.row ho4; have HRW := hide hrow; clear ho4 hrow; (have hz4 := hb4.sz; obtain ⟨hk4_0, hf4_0, hl4_0, hn4_0⟩ := hb4.lay (w.heap.size); obtain ⟨hk4_1, hf4_1, hl4_1, hn4_1⟩ := hb4.lay (wr.heap.size))) | (go_at_call 20; refine (l9Walk_any (TExpr.mk x1_3 x1_4 x1_5 x1_6 x1_7) R G P LL S _ _ _ _ _ false false (HT.out.on bl) (Dat.HoldVals.bel bl HU.out) (Dat.HoldVals.bel bl HVB.out) (Row.bel bl HRW.out)).mono ?_; rintro e w5 ⟨rfl, hb5⟩; rw [HQL.out]; (have hz5 := hb5.sz; obtain ⟨hk5_0, hf5_0, hl5_0, hn5_0⟩ := hb5.lay (w.heap.size); obtain ⟨hk5_1, hf5_1, hl5_1, hn5_1⟩ := hb5.lay (wr.heap.size))) | (go_at_call 21; refine (l9Cases_any (TExpr.mk x1_3 x1_4 x1_5 x1_6 x1_7) S _ _ (Dat.HoldVals.bel bl HVB.out) (by have := HCB.out; omega)).mono ?_; rintro e w6 ⟨rfl, hb6⟩; rw [HCS.out]; (have hz6 := hb6.sz; obtain ⟨hk6_0, hf6_0, hl6_0, hn6_0⟩ := hb6.lay (w.heap.size); obtain ⟨hk6_1, hf6_1, hl6_1, hn6_1⟩ := hb6.lay (wr.heap.size))))
          all_goals go_roundw
          case rel => exact ⟨m + 1, true, by go_num, rfl, by omega, hide HMV.out, hide HN3.out, bl⟩
          case measure => simp [intOf]; omega
         case neg => as_aux_lemma =>
          have hpb : ((x1_1.length : Int) == 0) = false := by rw [beq_eq_false_iff_ne]; omega
          have hpn : (x1_1.length == 0) = false := by rw [beq_eq_false_iff_ne]; omega
          have hpe : ¬ x1_1 = [] := fun h => hp (by rw [h]; rfl)
          have HMV := hide (show false = (P.take (m + 1)).any mainQ by rw [← HMX.out, HMQ.out, decide_eq_false hp]; simp)
          clear hnm hp
          go_wp2_with (first | (go_at_call 7; refine (HLO.out R G P m h1 S _ _ (HT.out.on bl) (Dat.HoldVals.bel bl HU.out) HWT.out HVAL.out).mono ?_; rintro e w4 ⟨v4, rfl, ho4, hb4⟩; rw [HLL.out] at ho4; obtain ⟨LA, lc, rfl, hrow⟩ := OwnS.row ho4; have HRW := hide hrow; clear ho4 hrow; (have hz4 := hb4.sz; obtain ⟨hk4_0, hf4_0, hl4_0, hn4_0⟩ := hb4.lay (w.heap.size); obtain ⟨hk4_1, hf4_1, hl4_1, hn4_1⟩ := hb4.lay (wr.heap.size))) | (go_at_call 20; refine (l9Walk_any (TExpr.mk x1_3 x1_4 x1_5 x1_6 x1_7) R G P LL S _ _ _ _ _ false false (HT.out.on bl) (Dat.HoldVals.bel bl HU.out) (Dat.HoldVals.bel bl HVB.out) (Row.bel bl HRW.out)).mono ?_; rintro e w5 ⟨rfl, hb5⟩; rw [HQL.out]; (have hz5 := hb5.sz; obtain ⟨hk5_0, hf5_0, hl5_0, hn5_0⟩ := hb5.lay (w.heap.size); obtain ⟨hk5_1, hf5_1, hl5_1, hn5_1⟩ := hb5.lay (wr.heap.size))) | (go_at_call 21; refine (l9Cases_any (TExpr.mk x1_3 x1_4 x1_5 x1_6 x1_7) S _ _ (Dat.HoldVals.bel bl HVB.out) (by have := HCB.out; omega)).mono ?_; rintro e w6 ⟨rfl, hb6⟩; rw [HCS.out]; (have hz6 := hb6.sz; obtain ⟨hk6_0, hf6_0, hl6_0, hn6_0⟩ := hb6.lay (w.heap.size); obtain ⟨hk6_1, hf6_1, hl6_1, hn6_1⟩ := hb6.lay (wr.heap.size))))
          all_goals go_roundw
          case rel => exact ⟨m + 1, false, by go_num, rfl, by omega, hide HMV.out, hide HN3.out, bl⟩
          case measure => simp [intOf]; omega
        case neg => as_aux_lemma =>
         have hnb : (x1_0.toList == mainS.toList) = false := by rw [beq_eq_false_iff_ne]; exact fun h => hnm ((ba_eq _ _).1 h)
         have hnl : ¬ x1_0.toList = [109, 97, 105, 110] := fun h => hnm ((ba_eq _ _).1 (h.trans mainS_list.symm))
         unfold mainS at hnb
         have HMV := hide (show false = (P.take (m + 1)).any mainQ by rw [← HMX.out, HMQ.out, decide_eq_false hnm]; simp)
         clear hnm
         go_wp2_with (first | (go_at_call 7; refine (HLO.out R G P m h1 S _ _ (HT.out.on bl) (Dat.HoldVals.bel bl HU.out) HWT.out HVAL.out).mono ?_; rintro e w4 ⟨v4, rfl, ho4, hb4⟩; rw [HLL.out] at ho4; obtain ⟨LA, lc, rfl, hrow⟩ := OwnS.row ho4; have HRW := hide hrow; clear ho4 hrow; (have hz4 := hb4.sz; obtain ⟨hk4_0, hf4_0, hl4_0, hn4_0⟩ := hb4.lay (w.heap.size); obtain ⟨hk4_1, hf4_1, hl4_1, hn4_1⟩ := hb4.lay (wr.heap.size))) | (go_at_call 20; refine (l9Walk_any (TExpr.mk x1_3 x1_4 x1_5 x1_6 x1_7) R G P LL S _ _ _ _ _ false false (HT.out.on bl) (Dat.HoldVals.bel bl HU.out) (Dat.HoldVals.bel bl HVB.out) (Row.bel bl HRW.out)).mono ?_; rintro e w5 ⟨rfl, hb5⟩; rw [HQL.out]; (have hz5 := hb5.sz; obtain ⟨hk5_0, hf5_0, hl5_0, hn5_0⟩ := hb5.lay (w.heap.size); obtain ⟨hk5_1, hf5_1, hl5_1, hn5_1⟩ := hb5.lay (wr.heap.size))) | (go_at_call 21; refine (l9Cases_any (TExpr.mk x1_3 x1_4 x1_5 x1_6 x1_7) S _ _ (Dat.HoldVals.bel bl HVB.out) (by have := HCB.out; omega)).mono ?_; rintro e w6 ⟨rfl, hb6⟩; rw [HCS.out]; (have hz6 := hb6.sz; obtain ⟨hk6_0, hf6_0, hl6_0, hn6_0⟩ := hb6.lay (w.heap.size); obtain ⟨hk6_1, hf6_1, hl6_1, hn6_1⟩ := hb6.lay (wr.heap.size))))
         all_goals go_roundw
         case rel => exact ⟨m + 1, false, by go_num, rfl, by omega, hide HMV.out, hide HN3.out, bl⟩
         case measure => simp [intOf]; omega
      case pos =>
      have hd : decide ((m : Int) < (P.length : Int)) = true := by simp; omega
      have hdn : decide (m < P.length) = true := by simp; omega
      have HPP := hide (proc_parts (proc_ok HVAL.out h1))
      have hle0 := hq0
      (obtain ⟨b1, o1, x1_0, x1_1, x1_2, x1_3, x1_4, x1_5, x1_6, x1_7, x1_8, A1_1, C1_1, A1_2, C1_2, A1_7, C1_7, hA1, hS1, hl1, hx1, hv1, g1_0, g1_1, g1_2, g1_3, g1_4, g1_5, g1_6, g1_7, g1_8, c1_0, c1_1, c1_2, c1_3, c1_4, c1_5, c1_6, c1_7, c1_8⟩ := TProcedure.at HR2.out m h1; subst hA1; have HV1 := hide (Dat.HoldVals.bel hbw hv1); have hh1 := hbw.box b1 hl1; have hw1 := Nat.lt_of_lt_of_le hl1 (Bel.size hbw); replace c1_0 := (hh1 _).trans c1_0; replace c1_1 := (hh1 _).trans c1_1; replace c1_2 := (hh1 _).trans c1_2; replace c1_3 := (hh1 _).trans c1_3; replace c1_4 := (hh1 _).trans c1_4; replace c1_5 := (hh1 _).trans c1_5; replace c1_6 := (hh1 _).trans c1_6; replace c1_7 := (hh1 _).trans c1_7; replace c1_8 := (hh1 _).trans c1_8; have HX1 := hide hx1; have GR1_1 := hide g1_1; have GR1_2 := hide g1_2; have GR1_7 := hide g1_7; clear hh1 hv1 hx1 hS1 g1_1 g1_2 g1_7)
      have hne1 : ¬ b1 = wr.heap.size := by omega
      have HNM := hide (show P[m].nm = x1_0 ∧ P[m].pars = x1_1 ∧ P[m].locs = x1_2 ∧ P[m].line = x1_8 by rw [HX1.out]; exact ⟨rfl, rfl, rfl, rfl⟩)
      have HIN := hide (hinv.out.trans (nmP_at h1))
      clear hinv
      have HP1 := hide (show x1_1.length ≤ 6 ∧ x1_2.length ≤ 8 ∧ x1_1.all nameB = true ∧ x1_2.all nameB = true by have h := HPP.out; rw [HNM.out.2.1, HNM.out.2.2.1] at h; exact ⟨h.1, h.2.1, h.2.2.2.2.1, h.2.2.2.2.2⟩)
      have h61 := HP1.out.1
      have h82 := HP1.out.2.1
      have HSZ := hide (show ∀ x ∈ x1_1 ++ x1_2, x.size ≤ maxLen from fun x hx => name_size (by rcases List.mem_append.1 hx with h | h; exact List.all_eq_true.1 HP1.out.2.2.1 x h; exact List.all_eq_true.1 HP1.out.2.2.2 x h))
      obtain ⟨ix, hix⟩ : ∃ ix, Lib.idxOfS (funL ++ seen) x1_0 = ix := ⟨_, rfl⟩
      have HIX := hide hix
      have HTX := hide (show decide (0 ≤ ix) = takB seen x1_0 by rw [← hix]; exact takB_spec seen x1_0)
      clear hix
      obtain ⟨bt, hbt⟩ : ∃ bt, takB seen x1_0 = bt := ⟨_, rfl⟩
      have HTK := hide hbt
      have hdx : decide (0 ≤ ix) = bt := HTX.out.trans hbt
      clear hbt
      obtain ⟨bw, hbw2⟩ : ∃ bw, twiceB (x1_1 ++ x1_2) = bw := ⟨_, rfl⟩
      have HTW := hide hbw2
      clear hbw2
      have HNX := hide (show nmR G P [] R = if bt || bw then (2, x1_8) else nmP (seen ++ [x1_0]) (P.drop (m + 1)) by rw [HIN.out, HNM.out.1, HNM.out.2.1, HNM.out.2.2.1, HNM.out.2.2.2, HTK.out, HTW.out])
      have HX0 := hide g1_0
      go_upto_region 20 with (fail)
      go_cut [108] from 94 to 115 (fun r wx => r = .bool (bt || bw) ∧ Bel (wr.alloc (.cells #[.string x1_0, .slice A1_1 x1_1.length C1_1, .slice A1_2 x1_2.length C1_2, .int .i64 x1_3, .string x1_4, .int .i64 x1_5, .int .i64 x1_6, .slice A1_7 x1_7.length C1_7, .int .i64 x1_8] 44)) wx)
      case first =>
       cases bt
       case true => as_aux_lemma =>
        refine wp_region_held_drew (S := fun w' => w'.cell? ⟨wr.heap.size, 0, none⟩ = some (.string x1_0) ∧ w'.cell? ⟨wr.heap.size, 1, none⟩ = some (.slice A1_1 x1_1.length C1_1) ∧ w'.cell? ⟨wr.heap.size, 2, none⟩ = some (.slice A1_2 x1_2.length C1_2)) (by kernel_rfl) ?_ (fun hHeld => ?_)
        ·
         exact ⟨by simp, by simp, by simp⟩
        refine tkI 0 ?_
        refine tkI 1 ?_
        refine tkI 2 ?_
        refine wpAnyH_ready (rs := [3]) (by kernel_rfl) (by simp) ?_
        refine AllReadyH.cons (o := _) rfl (fun K hK => ?_) AllReadyH.nil
        go_simp
        clear hHeld
        (go_at_call 18; refine (l9Find_ownB (OwnS.bel HOL.out bl) x1_0).mono ?_; rintro e w2 ⟨rfl, hbF0⟩; rw [HIX.out])
        have hbPz : Bel (wr.alloc (.cells #[.string x1_0, .slice A1_1 x1_1.length C1_1, .slice A1_2 x1_2.length C1_2, .int .i64 x1_3, .string x1_4, .int .i64 x1_5, .int .i64 x1_6, .slice A1_7 x1_7.length C1_7, .int .i64 x1_8] 44)) w2 := Bel.trans (show Bel (wr.alloc (.cells #[.string x1_0, .slice A1_1 x1_1.length C1_1, .slice A1_2 x1_2.length C1_2, .int .i64 x1_3, .string x1_4, .int .i64 x1_5, .int .i64 x1_6, .slice A1_7 x1_7.length C1_7, .int .i64 x1_8] 44)) _ from bl) hbF0
        have hszP := hbPz.size
        simp only [World.size_alloc] at hszP
        have hlb : wr.heap.size < w2.heap.size := by omega
        have hnb : ¬ wr.heap.size = w2.heap.size := by omega
        have b_0 : w2.cell? ⟨wr.heap.size, 0, none⟩ = some (.string x1_0) := (hbPz.box wr.heap.size (by simp) 0).trans (by simp)
        have b_1 : w2.cell? ⟨wr.heap.size, 1, none⟩ = some (.slice A1_1 x1_1.length C1_1) := (hbPz.box wr.heap.size (by simp) 1).trans (by simp)
        have b_2 : w2.cell? ⟨wr.heap.size, 2, none⟩ = some (.slice A1_2 x1_2.length C1_2) := (hbPz.box wr.heap.size (by simp) 2).trans (by simp)
        have hbB2 : Bel w w2 := Bel.trans hbw (Bel.trans (show Bel wr (wr.alloc (.cells #[.string x1_0, .slice A1_1 x1_1.length C1_1, .slice A1_2 x1_2.length C1_2, .int .i64 x1_3, .string x1_4, .int .i64 x1_5, .int .i64 x1_6, .slice A1_7 x1_7.length C1_7, .int .i64 x1_8] 44)) from bl) hbPz)
        have HBW := hide hbB2
        refine hK.out _ _ ?_ (fun hHeld => ?_)
        ·
         exact ⟨b_0, b_1, b_2⟩
        clear hK K hbF0
        (try simp only [Act.put, List.setIfInBounds_toArray, List.set_cons_zero, List.set_cons_succ, List.getElem_toArray, List.getElem_cons_zero, List.getElem_cons_succ])
        refine tkI 4 ?_
        refine tkI 5 ?_
        refine tkN 6 ?_
        refine tkN 7 ?_
        refine tkN 8 ?_
        refine tkN 9 ?_
        refine tkN 10 ?_
        refine tkN 11 ?_
        refine tkN 12 ?_
        refine tkN 13 ?_
        refine tkI 14 ?_
        refine wpAnyH_done (by kernel_rfl) ?_ _
        all_goals (try (go_wp2_with (fail)))
        all_goals go_meet
        all_goals exact ⟨rfl, hbPz⟩
       case false =>
        by_cases hp1 : x1_1 = []
        case pos =>
         have HN1 := hide (show x1_1.length = 0 by rw [hp1]; rfl)
         have HPP1 := hide hp1
         clear hp1
         by_cases hp2 : x1_2 = []
         case pos => as_aux_lemma =>
          have HN2 := hide (show x1_2.length = 0 by rw [hp2]; rfl)
          have HPP2 := hide hp2
          clear hp2
          refine wp_region_held_drew (S := fun w' => w'.cell? ⟨wr.heap.size, 0, none⟩ = some (.string x1_0) ∧ w'.cell? ⟨wr.heap.size, 1, none⟩ = some (.slice A1_1 x1_1.length C1_1) ∧ w'.cell? ⟨wr.heap.size, 2, none⟩ = some (.slice A1_2 x1_2.length C1_2)) (by kernel_rfl) ?_ (fun hHeld => ?_)
          ·
           exact ⟨by simp, by simp, by simp⟩
          refine tkI 0 ?_
          refine tkI 1 ?_
          refine tkI 2 ?_
          refine wpAnyH_ready (rs := [3]) (by kernel_rfl) (by simp) ?_
          refine AllReadyH.cons (o := _) rfl (fun K hK => ?_) AllReadyH.nil
          go_simp
          clear hHeld
          (go_at_call 18; refine (l9Find_ownB (OwnS.bel HOL.out bl) x1_0).mono ?_; rintro e w2 ⟨rfl, hbF0⟩; rw [HIX.out])
          have hbPz : Bel (wr.alloc (.cells #[.string x1_0, .slice A1_1 x1_1.length C1_1, .slice A1_2 x1_2.length C1_2, .int .i64 x1_3, .string x1_4, .int .i64 x1_5, .int .i64 x1_6, .slice A1_7 x1_7.length C1_7, .int .i64 x1_8] 44)) w2 := Bel.trans (show Bel (wr.alloc (.cells #[.string x1_0, .slice A1_1 x1_1.length C1_1, .slice A1_2 x1_2.length C1_2, .int .i64 x1_3, .string x1_4, .int .i64 x1_5, .int .i64 x1_6, .slice A1_7 x1_7.length C1_7, .int .i64 x1_8] 44)) _ from bl) hbF0
          have hszP := hbPz.size
          simp only [World.size_alloc] at hszP
          have hlb : wr.heap.size < w2.heap.size := by omega
          have hnb : ¬ wr.heap.size = w2.heap.size := by omega
          have b_0 : w2.cell? ⟨wr.heap.size, 0, none⟩ = some (.string x1_0) := (hbPz.box wr.heap.size (by simp) 0).trans (by simp)
          have b_1 : w2.cell? ⟨wr.heap.size, 1, none⟩ = some (.slice A1_1 x1_1.length C1_1) := (hbPz.box wr.heap.size (by simp) 1).trans (by simp)
          have b_2 : w2.cell? ⟨wr.heap.size, 2, none⟩ = some (.slice A1_2 x1_2.length C1_2) := (hbPz.box wr.heap.size (by simp) 2).trans (by simp)
          have hbB2 : Bel w w2 := Bel.trans hbw (Bel.trans (show Bel wr (wr.alloc (.cells #[.string x1_0, .slice A1_1 x1_1.length C1_1, .slice A1_2 x1_2.length C1_2, .int .i64 x1_3, .string x1_4, .int .i64 x1_5, .int .i64 x1_6, .slice A1_7 x1_7.length C1_7, .int .i64 x1_8] 44)) from bl) hbPz)
          have HBW := hide hbB2
          refine hK.out _ _ ?_ (fun hHeld => ?_)
          ·
           exact ⟨b_0, b_1, b_2⟩
          clear hK K hbF0
          (try simp only [Act.put, List.setIfInBounds_toArray, List.set_cons_zero, List.set_cons_succ, List.getElem_toArray, List.getElem_cons_zero, List.getElem_cons_succ])
          refine tkI 4 ?_
          refine tkI 5 ?_
          refine tkI 7 ?_
          refine tkI 8 ?_
          refine tkI 10 ?_
          refine tkI 11 ?_
          refine wpAnyH_ready (rs := [6]) (by kernel_rfl) (by simp) ?_
          refine AllReadyH.cons (o := _) rfl (fun K hK => ?_) AllReadyH.nil
          go_simp
          clear hHeld
          have hbs : Bel w2 _ := (show Bel w2 (w2.alloc (.cells #[] 9)) from bl)
          have ho0 : OwnS w2 (w2.alloc (.cells #[] 9)) (.slice (some ⟨w2.heap.size, 0, none⟩) 0 0) [] := OwnS.bel (show OwnS w2 (w2.alloc (.cells #[] 9)) (.slice (some ⟨w2.heap.size, 0, none⟩) 0 0) [] from ⟨by have h := World.ownsRow_made (base := w2.heap.size) (e := 9) (size := 1) w2 #[] 0 (Nat.le_refl _) (by unfold maxLen; omega) rfl; simpa using h, fun x hx => by cases hx⟩) bl
          refine hK.out _ _ ?_ (fun hHeld => ?_)
          ·
           exact ⟨(Bel.box (W := w2) (by first | exact hbT | exact hbP2 | exact hbP1 | exact bl) wr.heap.size hlb _).trans b_0, (Bel.box (W := w2) (by first | exact hbT | exact hbP2 | exact hbP1 | exact bl) wr.heap.size hlb _).trans b_1, (Bel.box (W := w2) (by first | exact hbT | exact hbP2 | exact hbP1 | exact bl) wr.heap.size hlb _).trans b_2⟩
          clear hK K
          (try simp only [Act.put, List.setIfInBounds_toArray, List.set_cons_zero, List.set_cons_succ, List.getElem_toArray, List.getElem_cons_zero, List.getElem_cons_succ])
          refine wpAnyH_ready (rs := [9]) (by kernel_rfl) (by simp) ?_
          refine AllReadyH.cons (o := _) rfl (fun K hK => ?_) AllReadyH.nil
          rw [if_pos (by rfl)]
          refine wp_append_zero (.tmp 100) (.tmp 102) 25 rfl w2.heap.size 9 i0 1 Tryd.underlying25 hi0 _ _ _ rfl ho0.1 _ _ _ rfl HN1.out ?_
          have ho1 := ho0
          have hbP1 := hbs
          refine hK.out _ _ ?_ (fun hHeld => ?_)
          ·
           exact ⟨(Bel.box (W := w2) (by first | exact hbT | exact hbP2 | exact hbP1 | exact bl) wr.heap.size hlb _).trans b_0, (Bel.box (W := w2) (by first | exact hbT | exact hbP2 | exact hbP1 | exact bl) wr.heap.size hlb _).trans b_1, (Bel.box (W := w2) (by first | exact hbT | exact hbP2 | exact hbP1 | exact bl) wr.heap.size hlb _).trans b_2⟩
          clear hK K
          (try simp only [Act.put, List.setIfInBounds_toArray, List.set_cons_zero, List.set_cons_succ, List.getElem_toArray, List.getElem_cons_zero, List.getElem_cons_succ])
          refine wpAnyH_ready (rs := [12]) (by kernel_rfl) (by simp) ?_
          refine AllReadyH.cons (o := _) rfl (fun K hK => ?_) AllReadyH.nil
          rw [if_pos (by rfl)]
          refine wp_append_zero (.tmp 103) (.tmp 105) 25 rfl w2.heap.size 9 i0 1 Tryd.underlying25 hi0 _ _ _ rfl ho1.1 _ _ _ rfl HN2.out ?_
          have ho2 := ho1
          have hbP2 := hbP1
          refine hK.out _ _ ?_ (fun hHeld => ?_)
          ·
           exact ⟨(Bel.box (W := w2) (by first | exact hbT | exact hbP2 | exact hbP1 | exact bl) wr.heap.size hlb _).trans b_0, (Bel.box (W := w2) (by first | exact hbT | exact hbP2 | exact hbP1 | exact bl) wr.heap.size hlb _).trans b_1, (Bel.box (W := w2) (by first | exact hbT | exact hbP2 | exact hbP1 | exact bl) wr.heap.size hlb _).trans b_2⟩
          clear hK K
          (try simp only [Act.put, List.setIfInBounds_toArray, List.set_cons_zero, List.set_cons_succ, List.getElem_toArray, List.getElem_cons_zero, List.getElem_cons_succ])
          have HXE := hide (show ([] : List ByteArray) = x1_1 ++ x1_2 by simp [HPP1.out, HPP2.out])
          refine wpAnyH_ready (rs := [13]) (by kernel_rfl) (by simp) ?_
          refine AllReadyH.cons (o := _) rfl (fun K hK => ?_) AllReadyH.nil
          go_simp
          clear hHeld
          (go_at_call 19; refine (l9Twice_own (xs := x1_1 ++ x1_2) (by rw [← HXE.out]; exact ho2)).mono ?_; rintro e w23 ⟨rfl, hbT0⟩; have hbT : Bel w2 w23 := Bel.trans hbP2 hbT0; rw [HTW.out])
          refine hK.out _ _ ?_ (fun hHeld => ?_)
          ·
           exact ⟨(Bel.box (W := w2) (by first | exact hbT | exact hbP2 | exact hbP1 | exact bl) wr.heap.size hlb _).trans b_0, (Bel.box (W := w2) (by first | exact hbT | exact hbP2 | exact hbP1 | exact bl) wr.heap.size hlb _).trans b_1, (Bel.box (W := w2) (by first | exact hbT | exact hbP2 | exact hbP1 | exact bl) wr.heap.size hlb _).trans b_2⟩
          clear hK K
          (try simp only [Act.put, List.setIfInBounds_toArray, List.set_cons_zero, List.set_cons_succ, List.getElem_toArray, List.getElem_cons_zero, List.getElem_cons_succ])
          refine tkI 14 ?_
          refine wpAnyH_done (by kernel_rfl) ?_ _
          all_goals (try (go_wp2_with (fail)))
          all_goals go_meet
          all_goals exact ⟨rfl, Bel.trans hbPz hbT⟩
         case neg => as_aux_lemma =>
          obtain ⟨ad2, rfl⟩ : ∃ ad, A1_2 = some ad := by obtain ⟨b, oo, h, -⟩ := GR1_2.out.2.2 (by simpa [strsD] using hp2); exact ⟨_, h⟩
          refine wp_region_held_drew (S := fun w' => w'.cell? ⟨wr.heap.size, 0, none⟩ = some (.string x1_0) ∧ w'.cell? ⟨wr.heap.size, 1, none⟩ = some (.slice A1_1 x1_1.length C1_1) ∧ w'.cell? ⟨wr.heap.size, 2, none⟩ = some (.slice (some ad2) x1_2.length C1_2)) (by kernel_rfl) ?_ (fun hHeld => ?_)
          ·
           exact ⟨by simp, by simp, by simp⟩
          refine tkI 0 ?_
          refine tkI 1 ?_
          refine tkI 2 ?_
          refine wpAnyH_ready (rs := [3]) (by kernel_rfl) (by simp) ?_
          refine AllReadyH.cons (o := _) rfl (fun K hK => ?_) AllReadyH.nil
          go_simp
          clear hHeld
          (go_at_call 18; refine (l9Find_ownB (OwnS.bel HOL.out bl) x1_0).mono ?_; rintro e w2 ⟨rfl, hbF0⟩; rw [HIX.out])
          have hbPz : Bel (wr.alloc (.cells #[.string x1_0, .slice A1_1 x1_1.length C1_1, .slice (some ad2) x1_2.length C1_2, .int .i64 x1_3, .string x1_4, .int .i64 x1_5, .int .i64 x1_6, .slice A1_7 x1_7.length C1_7, .int .i64 x1_8] 44)) w2 := Bel.trans (show Bel (wr.alloc (.cells #[.string x1_0, .slice A1_1 x1_1.length C1_1, .slice (some ad2) x1_2.length C1_2, .int .i64 x1_3, .string x1_4, .int .i64 x1_5, .int .i64 x1_6, .slice A1_7 x1_7.length C1_7, .int .i64 x1_8] 44)) _ from bl) hbF0
          have hszP := hbPz.size
          simp only [World.size_alloc] at hszP
          have hlb : wr.heap.size < w2.heap.size := by omega
          have hnb : ¬ wr.heap.size = w2.heap.size := by omega
          have b_0 : w2.cell? ⟨wr.heap.size, 0, none⟩ = some (.string x1_0) := (hbPz.box wr.heap.size (by simp) 0).trans (by simp)
          have b_1 : w2.cell? ⟨wr.heap.size, 1, none⟩ = some (.slice A1_1 x1_1.length C1_1) := (hbPz.box wr.heap.size (by simp) 1).trans (by simp)
          have b_2 : w2.cell? ⟨wr.heap.size, 2, none⟩ = some (.slice (some ad2) x1_2.length C1_2) := (hbPz.box wr.heap.size (by simp) 2).trans (by simp)
          have hbB2 : Bel w w2 := Bel.trans hbw (Bel.trans (show Bel wr (wr.alloc (.cells #[.string x1_0, .slice A1_1 x1_1.length C1_1, .slice (some ad2) x1_2.length C1_2, .int .i64 x1_3, .string x1_4, .int .i64 x1_5, .int .i64 x1_6, .slice A1_7 x1_7.length C1_7, .int .i64 x1_8] 44)) from bl) hbPz)
          have HBW := hide hbB2
          refine hK.out _ _ ?_ (fun hHeld => ?_)
          ·
           exact ⟨b_0, b_1, b_2⟩
          clear hK K hbF0
          (try simp only [Act.put, List.setIfInBounds_toArray, List.set_cons_zero, List.set_cons_succ, List.getElem_toArray, List.getElem_cons_zero, List.getElem_cons_succ])
          refine tkI 4 ?_
          refine tkI 5 ?_
          refine tkI 7 ?_
          refine tkI 8 ?_
          refine tkI 10 ?_
          refine tkI 11 ?_
          refine wpAnyH_ready (rs := [6]) (by kernel_rfl) (by simp) ?_
          refine AllReadyH.cons (o := _) rfl (fun K hK => ?_) AllReadyH.nil
          go_simp
          clear hHeld
          have hbs : Bel w2 _ := (show Bel w2 (w2.alloc (.cells #[] 9)) from bl)
          have ho0 : OwnS w2 (w2.alloc (.cells #[] 9)) (.slice (some ⟨w2.heap.size, 0, none⟩) 0 0) [] := OwnS.bel (show OwnS w2 (w2.alloc (.cells #[] 9)) (.slice (some ⟨w2.heap.size, 0, none⟩) 0 0) [] from ⟨by have h := World.ownsRow_made (base := w2.heap.size) (e := 9) (size := 1) w2 #[] 0 (Nat.le_refl _) (by unfold maxLen; omega) rfl; simpa using h, fun x hx => by cases hx⟩) bl
          refine hK.out _ _ ?_ (fun hHeld => ?_)
          ·
           exact ⟨(Bel.box (W := w2) (by first | exact hbT | exact hbP2 | exact hbP1 | exact bl) wr.heap.size hlb _).trans b_0, (Bel.box (W := w2) (by first | exact hbT | exact hbP2 | exact hbP1 | exact bl) wr.heap.size hlb _).trans b_1, (Bel.box (W := w2) (by first | exact hbT | exact hbP2 | exact hbP1 | exact bl) wr.heap.size hlb _).trans b_2⟩
          clear hK K
          (try simp only [Act.put, List.setIfInBounds_toArray, List.set_cons_zero, List.set_cons_succ, List.getElem_toArray, List.getElem_cons_zero, List.getElem_cons_succ])
          refine wpAnyH_ready (rs := [9]) (by kernel_rfl) (by simp) ?_
          refine AllReadyH.cons (o := _) rfl (fun K hK => ?_) AllReadyH.nil
          rw [if_pos (by rfl)]
          refine wp_append_zero (.tmp 100) (.tmp 102) 25 rfl w2.heap.size 9 i0 1 Tryd.underlying25 hi0 _ _ _ rfl ho0.1 _ _ _ rfl HN1.out ?_
          have ho1 := ho0
          have hbP1 := hbs
          refine hK.out _ _ ?_ (fun hHeld => ?_)
          ·
           exact ⟨(Bel.box (W := w2) (by first | exact hbT | exact hbP2 | exact hbP1 | exact bl) wr.heap.size hlb _).trans b_0, (Bel.box (W := w2) (by first | exact hbT | exact hbP2 | exact hbP1 | exact bl) wr.heap.size hlb _).trans b_1, (Bel.box (W := w2) (by first | exact hbT | exact hbP2 | exact hbP1 | exact bl) wr.heap.size hlb _).trans b_2⟩
          clear hK K
          (try simp only [Act.put, List.setIfInBounds_toArray, List.set_cons_zero, List.set_cons_succ, List.getElem_toArray, List.getElem_cons_zero, List.getElem_cons_succ])
          refine wpAnyH_ready (rs := [12]) (by kernel_rfl) (by simp) ?_
          refine AllReadyH.cons (o := _) rfl (fun K hK => ?_) AllReadyH.nil
          rw [if_pos (by rfl)]
          refine wp_append_own _ (.tmp 103) (.tmp 105) 25 rfl w2.heap.size 9 i0 (.string ByteArray.empty) 1 16 Tryd.underlying25 hi0 iz0 iz1 iz2 rfl (by decide) _ _ _ rfl ho1.1 ad2 x1_2.length C1_2 (x1_2.map Value.string) rfl (by simp) (row_news (Row.bel (by first | exact Bel.trans HBW.out hbP1 | exact Bel.trans HBW.out hbs) GR1_2.out)) (by intro u hu; obtain ⟨s, -, rfl⟩ := List.mem_map.1 hu; rfl) (by unfold maxLen; (try simp); omega) (by (try simp); omega) (by have h := hbP1.size; omega) ?_
          intro v12 w22 hown12 hgrow12 _
          have hbP2 : Bel w2 w22 := Below.grown hbP1 hgrow12 (by have h := hbP1.size; exact h) (OwnS.base ho1)
          have ho2 : OwnS w2 w22 v12 (([] : List ByteArray) ++ x1_2) := ⟨by simpa using hown12, fun x hx => HSZ.out x (by simp at hx; simp [hx])⟩
          clear hown12 hgrow12
          refine hK.out _ _ ?_ (fun hHeld => ?_)
          ·
           exact ⟨(Bel.box (W := w2) (by first | exact hbT | exact hbP2 | exact hbP1 | exact bl) wr.heap.size hlb _).trans b_0, (Bel.box (W := w2) (by first | exact hbT | exact hbP2 | exact hbP1 | exact bl) wr.heap.size hlb _).trans b_1, (Bel.box (W := w2) (by first | exact hbT | exact hbP2 | exact hbP1 | exact bl) wr.heap.size hlb _).trans b_2⟩
          clear hK K
          (try simp only [Act.put, List.setIfInBounds_toArray, List.set_cons_zero, List.set_cons_succ, List.getElem_toArray, List.getElem_cons_zero, List.getElem_cons_succ])
          have HXE := hide (show ([] : List ByteArray) ++ x1_2 = x1_1 ++ x1_2 by simp [HPP1.out])
          refine wpAnyH_ready (rs := [13]) (by kernel_rfl) (by simp) ?_
          refine AllReadyH.cons (o := _) rfl (fun K hK => ?_) AllReadyH.nil
          go_simp
          clear hHeld
          (go_at_call 19; refine (l9Twice_own (xs := x1_1 ++ x1_2) (by rw [← HXE.out]; exact ho2)).mono ?_; rintro e w23 ⟨rfl, hbT0⟩; have hbT : Bel w2 w23 := Bel.trans hbP2 hbT0; rw [HTW.out])
          refine hK.out _ _ ?_ (fun hHeld => ?_)
          ·
           exact ⟨(Bel.box (W := w2) (by first | exact hbT | exact hbP2 | exact hbP1 | exact bl) wr.heap.size hlb _).trans b_0, (Bel.box (W := w2) (by first | exact hbT | exact hbP2 | exact hbP1 | exact bl) wr.heap.size hlb _).trans b_1, (Bel.box (W := w2) (by first | exact hbT | exact hbP2 | exact hbP1 | exact bl) wr.heap.size hlb _).trans b_2⟩
          clear hK K
          (try simp only [Act.put, List.setIfInBounds_toArray, List.set_cons_zero, List.set_cons_succ, List.getElem_toArray, List.getElem_cons_zero, List.getElem_cons_succ])
          refine tkI 14 ?_
          refine wpAnyH_done (by kernel_rfl) ?_ _
          all_goals (try (go_wp2_with (fail)))
          all_goals go_meet
          all_goals exact ⟨rfl, Bel.trans hbPz hbT⟩
        case neg =>
         obtain ⟨ad1, rfl⟩ : ∃ ad, A1_1 = some ad := by obtain ⟨b, oo, h, -⟩ := GR1_1.out.2.2 (by simpa [strsD] using hp1); exact ⟨_, h⟩
         by_cases hp2 : x1_2 = []
         case pos => as_aux_lemma =>
          have HN2 := hide (show x1_2.length = 0 by rw [hp2]; rfl)
          have HPP2 := hide hp2
          clear hp2
          refine wp_region_held_drew (S := fun w' => w'.cell? ⟨wr.heap.size, 0, none⟩ = some (.string x1_0) ∧ w'.cell? ⟨wr.heap.size, 1, none⟩ = some (.slice (some ad1) x1_1.length C1_1) ∧ w'.cell? ⟨wr.heap.size, 2, none⟩ = some (.slice A1_2 x1_2.length C1_2)) (by kernel_rfl) ?_ (fun hHeld => ?_)
          ·
           exact ⟨by simp, by simp, by simp⟩
          refine tkI 0 ?_
          refine tkI 1 ?_
          refine tkI 2 ?_
          refine wpAnyH_ready (rs := [3]) (by kernel_rfl) (by simp) ?_
          refine AllReadyH.cons (o := _) rfl (fun K hK => ?_) AllReadyH.nil
          go_simp
          clear hHeld
          (go_at_call 18; refine (l9Find_ownB (OwnS.bel HOL.out bl) x1_0).mono ?_; rintro e w2 ⟨rfl, hbF0⟩; rw [HIX.out])
          have hbPz : Bel (wr.alloc (.cells #[.string x1_0, .slice (some ad1) x1_1.length C1_1, .slice A1_2 x1_2.length C1_2, .int .i64 x1_3, .string x1_4, .int .i64 x1_5, .int .i64 x1_6, .slice A1_7 x1_7.length C1_7, .int .i64 x1_8] 44)) w2 := Bel.trans (show Bel (wr.alloc (.cells #[.string x1_0, .slice (some ad1) x1_1.length C1_1, .slice A1_2 x1_2.length C1_2, .int .i64 x1_3, .string x1_4, .int .i64 x1_5, .int .i64 x1_6, .slice A1_7 x1_7.length C1_7, .int .i64 x1_8] 44)) _ from bl) hbF0
          have hszP := hbPz.size
          simp only [World.size_alloc] at hszP
          have hlb : wr.heap.size < w2.heap.size := by omega
          have hnb : ¬ wr.heap.size = w2.heap.size := by omega
          have b_0 : w2.cell? ⟨wr.heap.size, 0, none⟩ = some (.string x1_0) := (hbPz.box wr.heap.size (by simp) 0).trans (by simp)
          have b_1 : w2.cell? ⟨wr.heap.size, 1, none⟩ = some (.slice (some ad1) x1_1.length C1_1) := (hbPz.box wr.heap.size (by simp) 1).trans (by simp)
          have b_2 : w2.cell? ⟨wr.heap.size, 2, none⟩ = some (.slice A1_2 x1_2.length C1_2) := (hbPz.box wr.heap.size (by simp) 2).trans (by simp)
          have hbB2 : Bel w w2 := Bel.trans hbw (Bel.trans (show Bel wr (wr.alloc (.cells #[.string x1_0, .slice (some ad1) x1_1.length C1_1, .slice A1_2 x1_2.length C1_2, .int .i64 x1_3, .string x1_4, .int .i64 x1_5, .int .i64 x1_6, .slice A1_7 x1_7.length C1_7, .int .i64 x1_8] 44)) from bl) hbPz)
          have HBW := hide hbB2
          refine hK.out _ _ ?_ (fun hHeld => ?_)
          ·
           exact ⟨b_0, b_1, b_2⟩
          clear hK K hbF0
          (try simp only [Act.put, List.setIfInBounds_toArray, List.set_cons_zero, List.set_cons_succ, List.getElem_toArray, List.getElem_cons_zero, List.getElem_cons_succ])
          refine tkI 4 ?_
          refine tkI 5 ?_
          refine tkI 7 ?_
          refine tkI 8 ?_
          refine tkI 10 ?_
          refine tkI 11 ?_
          refine wpAnyH_ready (rs := [6]) (by kernel_rfl) (by simp) ?_
          refine AllReadyH.cons (o := _) rfl (fun K hK => ?_) AllReadyH.nil
          go_simp
          clear hHeld
          have hbs : Bel w2 _ := (show Bel w2 (w2.alloc (.cells #[] 9)) from bl)
          have ho0 : OwnS w2 (w2.alloc (.cells #[] 9)) (.slice (some ⟨w2.heap.size, 0, none⟩) 0 0) [] := OwnS.bel (show OwnS w2 (w2.alloc (.cells #[] 9)) (.slice (some ⟨w2.heap.size, 0, none⟩) 0 0) [] from ⟨by have h := World.ownsRow_made (base := w2.heap.size) (e := 9) (size := 1) w2 #[] 0 (Nat.le_refl _) (by unfold maxLen; omega) rfl; simpa using h, fun x hx => by cases hx⟩) bl
          refine hK.out _ _ ?_ (fun hHeld => ?_)
          ·
           exact ⟨(Bel.box (W := w2) (by first | exact hbT | exact hbP2 | exact hbP1 | exact bl) wr.heap.size hlb _).trans b_0, (Bel.box (W := w2) (by first | exact hbT | exact hbP2 | exact hbP1 | exact bl) wr.heap.size hlb _).trans b_1, (Bel.box (W := w2) (by first | exact hbT | exact hbP2 | exact hbP1 | exact bl) wr.heap.size hlb _).trans b_2⟩
          clear hK K
          (try simp only [Act.put, List.setIfInBounds_toArray, List.set_cons_zero, List.set_cons_succ, List.getElem_toArray, List.getElem_cons_zero, List.getElem_cons_succ])
          refine wpAnyH_ready (rs := [9]) (by kernel_rfl) (by simp) ?_
          refine AllReadyH.cons (o := _) rfl (fun K hK => ?_) AllReadyH.nil
          rw [if_pos (by rfl)]
          refine wp_append_own _ (.tmp 100) (.tmp 102) 25 rfl w2.heap.size 9 i0 (.string ByteArray.empty) 1 16 Tryd.underlying25 hi0 iz0 iz1 iz2 rfl (by decide) _ _ _ rfl ho0.1 ad1 x1_1.length C1_1 (x1_1.map Value.string) rfl (by simp) (row_news (Row.bel (by first | exact Bel.trans HBW.out hbP1 | exact Bel.trans HBW.out hbs) GR1_1.out)) (by intro u hu; obtain ⟨s, -, rfl⟩ := List.mem_map.1 hu; rfl) (by unfold maxLen; (try simp); omega) (by (try simp); omega) (by have h := hbs.size; omega) ?_
          intro v9 w21 hown9 hgrow9 _
          have hbP1 : Bel w2 w21 := Below.grown hbs hgrow9 (by have h := hbs.size; exact h) (OwnS.base ho0)
          have ho1 : OwnS w2 w21 v9 x1_1 := ⟨by simpa using hown9, fun x hx => HSZ.out x (by simp [hx])⟩
          clear hown9 hgrow9
          refine hK.out _ _ ?_ (fun hHeld => ?_)
          ·
           exact ⟨(Bel.box (W := w2) (by first | exact hbT | exact hbP2 | exact hbP1 | exact bl) wr.heap.size hlb _).trans b_0, (Bel.box (W := w2) (by first | exact hbT | exact hbP2 | exact hbP1 | exact bl) wr.heap.size hlb _).trans b_1, (Bel.box (W := w2) (by first | exact hbT | exact hbP2 | exact hbP1 | exact bl) wr.heap.size hlb _).trans b_2⟩
          clear hK K
          (try simp only [Act.put, List.setIfInBounds_toArray, List.set_cons_zero, List.set_cons_succ, List.getElem_toArray, List.getElem_cons_zero, List.getElem_cons_succ])
          refine wpAnyH_ready (rs := [12]) (by kernel_rfl) (by simp) ?_
          refine AllReadyH.cons (o := _) rfl (fun K hK => ?_) AllReadyH.nil
          rw [if_pos (by rfl)]
          refine wp_append_zero (.tmp 103) (.tmp 105) 25 rfl w2.heap.size 9 i0 1 Tryd.underlying25 hi0 _ _ _ rfl ho1.1 _ _ _ rfl HN2.out ?_
          have ho2 := ho1
          have hbP2 := hbP1
          refine hK.out _ _ ?_ (fun hHeld => ?_)
          ·
           exact ⟨(Bel.box (W := w2) (by first | exact hbT | exact hbP2 | exact hbP1 | exact bl) wr.heap.size hlb _).trans b_0, (Bel.box (W := w2) (by first | exact hbT | exact hbP2 | exact hbP1 | exact bl) wr.heap.size hlb _).trans b_1, (Bel.box (W := w2) (by first | exact hbT | exact hbP2 | exact hbP1 | exact bl) wr.heap.size hlb _).trans b_2⟩
          clear hK K
          (try simp only [Act.put, List.setIfInBounds_toArray, List.set_cons_zero, List.set_cons_succ, List.getElem_toArray, List.getElem_cons_zero, List.getElem_cons_succ])
          have HXE := hide (show x1_1 = x1_1 ++ x1_2 by simp [HPP2.out])
          refine wpAnyH_ready (rs := [13]) (by kernel_rfl) (by simp) ?_
          refine AllReadyH.cons (o := _) rfl (fun K hK => ?_) AllReadyH.nil
          go_simp
          clear hHeld
          (go_at_call 19; refine (l9Twice_own (xs := x1_1 ++ x1_2) (by rw [← HXE.out]; exact ho2)).mono ?_; rintro e w23 ⟨rfl, hbT0⟩; have hbT : Bel w2 w23 := Bel.trans hbP2 hbT0; rw [HTW.out])
          refine hK.out _ _ ?_ (fun hHeld => ?_)
          ·
           exact ⟨(Bel.box (W := w2) (by first | exact hbT | exact hbP2 | exact hbP1 | exact bl) wr.heap.size hlb _).trans b_0, (Bel.box (W := w2) (by first | exact hbT | exact hbP2 | exact hbP1 | exact bl) wr.heap.size hlb _).trans b_1, (Bel.box (W := w2) (by first | exact hbT | exact hbP2 | exact hbP1 | exact bl) wr.heap.size hlb _).trans b_2⟩
          clear hK K
          (try simp only [Act.put, List.setIfInBounds_toArray, List.set_cons_zero, List.set_cons_succ, List.getElem_toArray, List.getElem_cons_zero, List.getElem_cons_succ])
          refine tkI 14 ?_
          refine wpAnyH_done (by kernel_rfl) ?_ _
          all_goals (try (go_wp2_with (fail)))
          all_goals go_meet
          all_goals exact ⟨rfl, Bel.trans hbPz hbT⟩
         case neg => as_aux_lemma =>
          obtain ⟨ad2, rfl⟩ : ∃ ad, A1_2 = some ad := by obtain ⟨b, oo, h, -⟩ := GR1_2.out.2.2 (by simpa [strsD] using hp2); exact ⟨_, h⟩
          refine wp_region_held_drew (S := fun w' => w'.cell? ⟨wr.heap.size, 0, none⟩ = some (.string x1_0) ∧ w'.cell? ⟨wr.heap.size, 1, none⟩ = some (.slice (some ad1) x1_1.length C1_1) ∧ w'.cell? ⟨wr.heap.size, 2, none⟩ = some (.slice (some ad2) x1_2.length C1_2)) (by kernel_rfl) ?_ (fun hHeld => ?_)
          ·
           exact ⟨by simp, by simp, by simp⟩
          refine tkI 0 ?_
          refine tkI 1 ?_
          refine tkI 2 ?_
          refine wpAnyH_ready (rs := [3]) (by kernel_rfl) (by simp) ?_
          refine AllReadyH.cons (o := _) rfl (fun K hK => ?_) AllReadyH.nil
          go_simp
          clear hHeld
          (go_at_call 18; refine (l9Find_ownB (OwnS.bel HOL.out bl) x1_0).mono ?_; rintro e w2 ⟨rfl, hbF0⟩; rw [HIX.out])
          have hbPz : Bel (wr.alloc (.cells #[.string x1_0, .slice (some ad1) x1_1.length C1_1, .slice (some ad2) x1_2.length C1_2, .int .i64 x1_3, .string x1_4, .int .i64 x1_5, .int .i64 x1_6, .slice A1_7 x1_7.length C1_7, .int .i64 x1_8] 44)) w2 := Bel.trans (show Bel (wr.alloc (.cells #[.string x1_0, .slice (some ad1) x1_1.length C1_1, .slice (some ad2) x1_2.length C1_2, .int .i64 x1_3, .string x1_4, .int .i64 x1_5, .int .i64 x1_6, .slice A1_7 x1_7.length C1_7, .int .i64 x1_8] 44)) _ from bl) hbF0
          have hszP := hbPz.size
          simp only [World.size_alloc] at hszP
          have hlb : wr.heap.size < w2.heap.size := by omega
          have hnb : ¬ wr.heap.size = w2.heap.size := by omega
          have b_0 : w2.cell? ⟨wr.heap.size, 0, none⟩ = some (.string x1_0) := (hbPz.box wr.heap.size (by simp) 0).trans (by simp)
          have b_1 : w2.cell? ⟨wr.heap.size, 1, none⟩ = some (.slice (some ad1) x1_1.length C1_1) := (hbPz.box wr.heap.size (by simp) 1).trans (by simp)
          have b_2 : w2.cell? ⟨wr.heap.size, 2, none⟩ = some (.slice (some ad2) x1_2.length C1_2) := (hbPz.box wr.heap.size (by simp) 2).trans (by simp)
          have hbB2 : Bel w w2 := Bel.trans hbw (Bel.trans (show Bel wr (wr.alloc (.cells #[.string x1_0, .slice (some ad1) x1_1.length C1_1, .slice (some ad2) x1_2.length C1_2, .int .i64 x1_3, .string x1_4, .int .i64 x1_5, .int .i64 x1_6, .slice A1_7 x1_7.length C1_7, .int .i64 x1_8] 44)) from bl) hbPz)
          have HBW := hide hbB2
          refine hK.out _ _ ?_ (fun hHeld => ?_)
          ·
           exact ⟨b_0, b_1, b_2⟩
          clear hK K hbF0
          (try simp only [Act.put, List.setIfInBounds_toArray, List.set_cons_zero, List.set_cons_succ, List.getElem_toArray, List.getElem_cons_zero, List.getElem_cons_succ])
          refine tkI 4 ?_
          refine tkI 5 ?_
          refine tkI 7 ?_
          refine tkI 8 ?_
          refine tkI 10 ?_
          refine tkI 11 ?_
          refine wpAnyH_ready (rs := [6]) (by kernel_rfl) (by simp) ?_
          refine AllReadyH.cons (o := _) rfl (fun K hK => ?_) AllReadyH.nil
          go_simp
          clear hHeld
          have hbs : Bel w2 _ := (show Bel w2 (w2.alloc (.cells #[] 9)) from bl)
          have ho0 : OwnS w2 (w2.alloc (.cells #[] 9)) (.slice (some ⟨w2.heap.size, 0, none⟩) 0 0) [] := OwnS.bel (show OwnS w2 (w2.alloc (.cells #[] 9)) (.slice (some ⟨w2.heap.size, 0, none⟩) 0 0) [] from ⟨by have h := World.ownsRow_made (base := w2.heap.size) (e := 9) (size := 1) w2 #[] 0 (Nat.le_refl _) (by unfold maxLen; omega) rfl; simpa using h, fun x hx => by cases hx⟩) bl
          refine hK.out _ _ ?_ (fun hHeld => ?_)
          ·
           exact ⟨(Bel.box (W := w2) (by first | exact hbT | exact hbP2 | exact hbP1 | exact bl) wr.heap.size hlb _).trans b_0, (Bel.box (W := w2) (by first | exact hbT | exact hbP2 | exact hbP1 | exact bl) wr.heap.size hlb _).trans b_1, (Bel.box (W := w2) (by first | exact hbT | exact hbP2 | exact hbP1 | exact bl) wr.heap.size hlb _).trans b_2⟩
          clear hK K
          (try simp only [Act.put, List.setIfInBounds_toArray, List.set_cons_zero, List.set_cons_succ, List.getElem_toArray, List.getElem_cons_zero, List.getElem_cons_succ])
          refine wpAnyH_ready (rs := [9]) (by kernel_rfl) (by simp) ?_
          refine AllReadyH.cons (o := _) rfl (fun K hK => ?_) AllReadyH.nil
          rw [if_pos (by rfl)]
          refine wp_append_own _ (.tmp 100) (.tmp 102) 25 rfl w2.heap.size 9 i0 (.string ByteArray.empty) 1 16 Tryd.underlying25 hi0 iz0 iz1 iz2 rfl (by decide) _ _ _ rfl ho0.1 ad1 x1_1.length C1_1 (x1_1.map Value.string) rfl (by simp) (row_news (Row.bel (by first | exact Bel.trans HBW.out hbP1 | exact Bel.trans HBW.out hbs) GR1_1.out)) (by intro u hu; obtain ⟨s, -, rfl⟩ := List.mem_map.1 hu; rfl) (by unfold maxLen; (try simp); omega) (by (try simp); omega) (by have h := hbs.size; omega) ?_
          intro v9 w21 hown9 hgrow9 _
          have hbP1 : Bel w2 w21 := Below.grown hbs hgrow9 (by have h := hbs.size; exact h) (OwnS.base ho0)
          have ho1 : OwnS w2 w21 v9 x1_1 := ⟨by simpa using hown9, fun x hx => HSZ.out x (by simp [hx])⟩
          clear hown9 hgrow9
          refine hK.out _ _ ?_ (fun hHeld => ?_)
          ·
           exact ⟨(Bel.box (W := w2) (by first | exact hbT | exact hbP2 | exact hbP1 | exact bl) wr.heap.size hlb _).trans b_0, (Bel.box (W := w2) (by first | exact hbT | exact hbP2 | exact hbP1 | exact bl) wr.heap.size hlb _).trans b_1, (Bel.box (W := w2) (by first | exact hbT | exact hbP2 | exact hbP1 | exact bl) wr.heap.size hlb _).trans b_2⟩
          clear hK K
          (try simp only [Act.put, List.setIfInBounds_toArray, List.set_cons_zero, List.set_cons_succ, List.getElem_toArray, List.getElem_cons_zero, List.getElem_cons_succ])
          refine wpAnyH_ready (rs := [12]) (by kernel_rfl) (by simp) ?_
          refine AllReadyH.cons (o := _) rfl (fun K hK => ?_) AllReadyH.nil
          rw [if_pos (by rfl)]
          refine wp_append_own _ (.tmp 103) (.tmp 105) 25 rfl w2.heap.size 9 i0 (.string ByteArray.empty) 1 16 Tryd.underlying25 hi0 iz0 iz1 iz2 rfl (by decide) _ _ _ rfl ho1.1 ad2 x1_2.length C1_2 (x1_2.map Value.string) rfl (by simp) (row_news (Row.bel (by first | exact Bel.trans HBW.out hbP1 | exact Bel.trans HBW.out hbs) GR1_2.out)) (by intro u hu; obtain ⟨s, -, rfl⟩ := List.mem_map.1 hu; rfl) (by unfold maxLen; (try simp); omega) (by (try simp); omega) (by have h := hbP1.size; omega) ?_
          intro v12 w22 hown12 hgrow12 _
          have hbP2 : Bel w2 w22 := Below.grown hbP1 hgrow12 (by have h := hbP1.size; exact h) (OwnS.base ho1)
          have ho2 : OwnS w2 w22 v12 (x1_1 ++ x1_2) := ⟨by simpa using hown12, fun x hx => HSZ.out x (by simpa using hx)⟩
          clear hown12 hgrow12
          refine hK.out _ _ ?_ (fun hHeld => ?_)
          ·
           exact ⟨(Bel.box (W := w2) (by first | exact hbT | exact hbP2 | exact hbP1 | exact bl) wr.heap.size hlb _).trans b_0, (Bel.box (W := w2) (by first | exact hbT | exact hbP2 | exact hbP1 | exact bl) wr.heap.size hlb _).trans b_1, (Bel.box (W := w2) (by first | exact hbT | exact hbP2 | exact hbP1 | exact bl) wr.heap.size hlb _).trans b_2⟩
          clear hK K
          (try simp only [Act.put, List.setIfInBounds_toArray, List.set_cons_zero, List.set_cons_succ, List.getElem_toArray, List.getElem_cons_zero, List.getElem_cons_succ])
          have HXE := hide (show x1_1 ++ x1_2 = x1_1 ++ x1_2 by rfl)
          refine wpAnyH_ready (rs := [13]) (by kernel_rfl) (by simp) ?_
          refine AllReadyH.cons (o := _) rfl (fun K hK => ?_) AllReadyH.nil
          go_simp
          clear hHeld
          (go_at_call 19; refine (l9Twice_own (xs := x1_1 ++ x1_2) (by rw [← HXE.out]; exact ho2)).mono ?_; rintro e w23 ⟨rfl, hbT0⟩; have hbT : Bel w2 w23 := Bel.trans hbP2 hbT0; rw [HTW.out])
          refine hK.out _ _ ?_ (fun hHeld => ?_)
          ·
           exact ⟨(Bel.box (W := w2) (by first | exact hbT | exact hbP2 | exact hbP1 | exact bl) wr.heap.size hlb _).trans b_0, (Bel.box (W := w2) (by first | exact hbT | exact hbP2 | exact hbP1 | exact bl) wr.heap.size hlb _).trans b_1, (Bel.box (W := w2) (by first | exact hbT | exact hbP2 | exact hbP1 | exact bl) wr.heap.size hlb _).trans b_2⟩
          clear hK K
          (try simp only [Act.put, List.setIfInBounds_toArray, List.set_cons_zero, List.set_cons_succ, List.getElem_toArray, List.getElem_cons_zero, List.getElem_cons_succ])
          refine tkI 14 ?_
          refine wpAnyH_done (by kernel_rfl) ?_ _
          all_goals (try (go_wp2_with (fail)))
          all_goals go_meet
          all_goals exact ⟨rfl, Bel.trans hbPz hbT⟩
      case rest =>
      obtain ⟨hv108, hbPw⟩ := hcut
      subst hv108
      have hszc := hbPw.size
      simp only [World.size_alloc] at hszc
      have xb := hbPw.box wr.heap.size (by simp)
      have b_0 : wc.cell? ⟨wr.heap.size, 0, none⟩ = some (.string x1_0) := (xb 0).trans (by simp)
      have b_4 : wc.cell? ⟨wr.heap.size, 8, none⟩ = some (.int .i64 x1_8) := (xb 8).trans (by simp)
      have hlb : wr.heap.size < wc.heap.size := by omega
      have hnb : ¬ wr.heap.size = wc.heap.size := by omega
      clear xb
      have hbrc : Bel wr wc := Bel.trans (show Bel wr (wr.alloc (.cells #[.string x1_0, .slice A1_1 x1_1.length C1_1, .slice A1_2 x1_2.length C1_2, .int .i64 x1_3, .string x1_4, .int .i64 x1_5, .int .i64 x1_6, .slice A1_7 x1_7.length C1_7, .int .i64 x1_8] 44)) from bl) hbPw
      obtain ⟨bq, hbq⟩ : ∃ bq, (bt || bw) = bq := ⟨_, rfl⟩
      rw [hbq] at HNX ⊢
      clear hbq
      cases bq
      case true => as_aux_lemma =>
       have RR := hide (show chkU R G P = (2, x1_8) from chkU_nm HVAL.out (by rw [HNX.out]; rfl) (by omega))
       go_wp2_with (fail)
       all_goals (try (go_quiet (fail)))
       all_goals (try (go_wp2_with (fail)))
       all_goals
        go_returns
        exact ⟨ret_pair RR.out, bl⟩
      case false =>
      go_wp2_with (first | (at_builtin; (refine wpList_append_own _ rfl _ _ 25 rfl w.heap.size 9 i0 (.string ByteArray.empty) 1 16 Tryd.underlying25 hi0 iz0 iz1 iz2 rfl (by decide) _ _ _ rfl ((OwnS.bel HOL.out bl).1) ⟨wc.heap.size, 0, none⟩ 1 1 [.string x1_0] rfl rfl ?c1 ?c2 ?c3 ?c4 ?c5 ?_)))
      case c1 => exact cell_one_new _ _ _
      case c2 => intro u hu; simp at hu; subst hu; rfl
      case c3 => unfold maxLen; simp; omega
      case c4 => simp; omega
      case c5 => have h1 := hbw.size; have h2 := (show Bel wr wc from hbrc).size; simp at h2 ⊢; omega
      intro v9 w9 hown9 hgrow9 _
      have hw1 : Bel wr _ := (show Bel wr (wc.alloc (.cells #[.string x1_0] 9)) from Bel.trans hbrc bl)
      have hbB9 : Bel w w9 := Below.grown (Bel.trans hbw hw1) hgrow9 (by have h1 := hw1.size; have h2 := hbw.size; omega) (OwnS.base HOL.out)
      have hk9 : Kept wr w9 := Kept.trans (Kept.ofBel hw1) (Kept.grown (OwnS.bel HOL.out hw1) hgrow9)
      have ho9 := OwnS.snoc (show w9.ownsRow w.heap.size 9 1 v9 ((funL ++ seen).length + 1) ((funL ++ seen).map Value.string ++ [Value.string x1_0]) by have h := hown9; rw [List.length_append, HFL.out, List.map_append, List.append_assoc]; exact h) HOL.out.2 HX0.out
      clear hown9 hgrow9
      have HO9 := hide (OwnS.cast ho9 (List.append_assoc _ _ _))
      have HK9 := hide hk9
      clear ho9 hk9
      go_wp2_with (fail)
      all_goals go_roundw
      case rel => exact ⟨m + 1, seen ++ [x1_0], by go_num, by omega, hide HNX.out, by simp; omega, OwnS.bel HO9.out bl, Bel.trans hbB9 bl, Kept.trans HKW.out (Kept.trans HK9.out (Kept.ofBel bl))⟩
      case measure => simp [intOf]; omega
    case pos =>
    have hd : decide ((m : Int) < (G.length : Int)) = true := by simp; omega
    have hdn : decide (m < G.length) = true := by simp; omega
    obtain ⟨bG, oG, rfl, -, hbG⟩ := Row.addr HR1.out (by simpa using Nat.lt_of_le_of_lt (Nat.zero_le m) h1)
    have hcG := Row.strs HR1.out m h1
    rw [getD_lt2 G m h1] at hcG
    replace hcG := (hbw.box bG hbG _).trans hcG
    have hlG : bG < wr.heap.size := by omega
    have hnG : ¬ bG = wr.heap.size := by omega
    have HGS := hide (HNO.out.2.2.2 G[m] (List.getElem_mem h1))
    have HIN := hide (hinv.out.trans (nmG_at h1))
    clear hinv
    obtain ⟨gx, hgx⟩ : ∃ gx, G[m] = gx := ⟨_, rfl⟩
    rw [hgx] at hcG HGS HIN
    clear hgx
    obtain ⟨ix, hix⟩ : ∃ ix, Lib.idxOfS (funL ++ seen) gx = ix := ⟨_, rfl⟩
    have HIX := hide hix
    have HTX := hide (show decide (0 ≤ ix) = takB seen gx by rw [← hix]; exact takB_spec seen gx)
    clear hix
    obtain ⟨bt, hbt⟩ : ∃ bt, takB seen gx = bt := ⟨_, rfl⟩
    have HTK := hide hbt
    have hdx : decide (0 ≤ ix) = bt := HTX.out.trans hbt
    clear hbt
    have HNX := hide (show nmR G P [] R = if bt then (2, 0) else nmG P (seen ++ [gx]) (G.drop (m + 1)) by rw [HIN.out, HTK.out])
    cases bt
    case true => as_aux_lemma =>
     have RR := hide (show chkU R G P = (2, 0) from chkU_nm HVAL.out (by rw [HNX.out]; rfl) (by omega))
     go_wp2_with (go_at_call 18; refine (l9Find_own (OwnS.bel HOL.out bl) gx).mono ?_; rintro e w5 ⟨rfl, rfl⟩; rw [HIX.out])
     all_goals (try (go_quiet (fail)))
     all_goals (try (go_wp2_with (fail)))
     all_goals
      go_returns
      exact ⟨ret_pair RR.out, bl⟩
    case false =>
    go_wp2_with (first | (go_at_call 18; refine (l9Find_own (OwnS.bel HOL.out bl) gx).mono ?_; rintro e w5 ⟨rfl, rfl⟩; rw [HIX.out]) | (at_builtin; (refine wpList_append_own _ rfl _ _ 25 rfl w.heap.size 9 i0 (.string ByteArray.empty) 1 16 Tryd.underlying25 hi0 iz0 iz1 iz2 rfl (by decide) _ _ _ rfl ((OwnS.bel HOL.out bl).1) ⟨wr.heap.size, 0, none⟩ 1 1 [.string gx] rfl rfl ?c1 ?c2 ?c3 ?c4 ?c5 ?_)))
    case c1 => exact cell_one_new _ _ _
    case c2 => intro u hu; simp at hu; subst hu; rfl
    case c3 => unfold maxLen; simp; omega
    case c4 => simp; omega
    case c5 => have h1 := hbw.size; have h2 := (show Bel wr wr from (Bel.refl wr)).size; simp at h2 ⊢; omega
    intro v9 w9 hown9 hgrow9 _
    have hw1 : Bel wr _ := (show Bel wr (wr.alloc (.cells #[.string gx] 9)) from Bel.trans (Bel.refl wr) bl)
    have hbB9 : Bel w w9 := Below.grown (Bel.trans hbw hw1) hgrow9 (by have h1 := hw1.size; have h2 := hbw.size; omega) (OwnS.base HOL.out)
    have hk9 : Kept wr w9 := Kept.trans (Kept.ofBel hw1) (Kept.grown (OwnS.bel HOL.out hw1) hgrow9)
    have ho9 := OwnS.snoc (show w9.ownsRow w.heap.size 9 1 v9 ((funL ++ seen).length + 1) ((funL ++ seen).map Value.string ++ [Value.string gx]) by have h := hown9; rw [List.length_append, HFL.out, List.map_append, List.append_assoc]; exact h) HOL.out.2 HGS.out
    clear hown9 hgrow9
    have HO9 := hide (OwnS.cast ho9 (List.append_assoc _ _ _))
    have HK9 := hide hk9
    clear ho9 hk9
    go_wp2_with (fail)
    all_goals go_roundw
    case rel => exact ⟨m + 1, seen ++ [gx], by go_num, by omega, hide HNX.out, by simp; omega, OwnS.bel HO9.out bl, Bel.trans hbB9 bl, Kept.trans HKW.out (Kept.trans HK9.out (Kept.ofBel bl))⟩
    case measure => simp [intOf]; omega
  case pos =>
  have hd : decide ((m : Int) < (R.length : Int)) = true := by simp; omega
  have hdn : decide (m < R.length) = true := by simp; omega
  (obtain ⟨b1, o1, x1_0, x1_1, x1_2, A1_1, C1_1, hA1, hS1, hl1, hx1, hv1, g1_0, g1_1, g1_2, c1_0, c1_1, c1_2⟩ := TRecordType.at HR0.out m h1; subst hA1; have HV1 := hide (Dat.HoldVals.bel hbw hv1); have hh1 := hbw.box b1 hl1; have hw1 := Nat.lt_of_lt_of_le hl1 (Bel.size hbw); replace c1_0 := (hh1 _).trans c1_0; replace c1_1 := (hh1 _).trans c1_1; replace c1_2 := (hh1 _).trans c1_2; have HX1 := hide hx1; have GR1_1 := hide g1_1; clear hh1 hv1 hx1 hS1 g1_1)
  have hne1 : ¬ b1 = wr.heap.size := by omega
  have HNM := hide (show R[m].name = x1_0 ∧ R[m].fields = x1_1 ∧ R[m].line = x1_2 by rw [HX1.out]; exact ⟨rfl, rfl, rfl⟩)
  have HIN := hide (hinv.out.trans (nmR_at h1))
  clear hinv
  obtain ⟨ix, hix⟩ : ∃ ix, Lib.idxOfS (funL ++ seen) x1_0 = ix := ⟨_, rfl⟩
  have HIX := hide hix
  have HTX := hide (show decide (0 ≤ ix) = takB seen x1_0 by rw [← hix]; exact takB_spec seen x1_0)
  clear hix
  obtain ⟨bt, hbt⟩ : ∃ bt, takB seen x1_0 = bt := ⟨_, rfl⟩
  have HTK := hide hbt
  have hdx : decide (0 ≤ ix) = bt := HTX.out.trans hbt
  clear hbt
  obtain ⟨bw, hbw2⟩ : ∃ bw, twiceB x1_1 = bw := ⟨_, rfl⟩
  have HTW := hide hbw2
  clear hbw2
  have HNX := hide (show nmR G P [] R = if bt || bw then (2, x1_2) else nmR G P (seen ++ [x1_0]) (R.drop (m + 1)) by rw [HIN.out, HNM.out.1, HNM.out.2.1, HNM.out.2.2, HTK.out, HTW.out])
  cases bt
  case true => as_aux_lemma =>
   have RR := hide (show chkU R G P = (2, x1_2) from chkU_nm HVAL.out (by rw [HNX.out]; rfl) (by omega))
   go_wp2_with (first | (go_at_call 18; refine (l9Find_own (OwnS.bel HOL.out bl) x1_0).mono ?_; rintro e w5 ⟨rfl, rfl⟩; rw [HIX.out]) | (go_at_call 19; refine (l9Twice_row x1_1 S _ _ _ (Row.bel bl GR1_1.out)).mono ?_; rintro e w6 ⟨rfl, hb6⟩; rw [HTW.out]; (have hz6 := hb6.sz; obtain ⟨hk6_0, hf6_0, hl6_0, hn6_0⟩ := hb6.lay (w.heap.size); obtain ⟨hk6_1, hf6_1, hl6_1, hn6_1⟩ := hb6.lay (b1))))
   all_goals (try (go_quiet (fail)))
   all_goals (try (go_wp2_with (fail)))
   all_goals
    go_returns
    exact ⟨ret_pair RR.out, bl⟩
  case false =>
  cases bw
  case true => as_aux_lemma =>
   have RR := hide (show chkU R G P = (2, x1_2) from chkU_nm HVAL.out (by rw [HNX.out]; rfl) (by omega))
   go_wp2_with (first | (go_at_call 18; refine (l9Find_own (OwnS.bel HOL.out bl) x1_0).mono ?_; rintro e w5 ⟨rfl, rfl⟩; rw [HIX.out]) | (go_at_call 19; refine (l9Twice_row x1_1 S _ _ _ (Row.bel bl GR1_1.out)).mono ?_; rintro e w6 ⟨rfl, hb6⟩; rw [HTW.out]; (have hz6 := hb6.sz; obtain ⟨hk6_0, hf6_0, hl6_0, hn6_0⟩ := hb6.lay (w.heap.size); obtain ⟨hk6_1, hf6_1, hl6_1, hn6_1⟩ := hb6.lay (b1))))
   all_goals (try (go_quiet (fail)))
   all_goals (try (go_wp2_with (fail)))
   all_goals
    go_returns
    exact ⟨ret_pair RR.out, bl⟩
  case false =>
  go_wp2_with (first | (go_at_call 18; refine (l9Find_own (OwnS.bel HOL.out bl) x1_0).mono ?_; rintro e w5 ⟨rfl, rfl⟩; rw [HIX.out]) | (go_at_call 19; refine (l9Twice_row x1_1 S _ _ _ (Row.bel bl GR1_1.out)).mono ?_; rintro e w6 ⟨rfl, hb6⟩; rw [HTW.out]; (have hz6 := hb6.sz; obtain ⟨hk6_0, hf6_0, hl6_0, hn6_0⟩ := hb6.lay (w.heap.size); obtain ⟨hk6_1, hf6_1, hl6_1, hn6_1⟩ := hb6.lay (b1))) | (at_builtin; (refine wpList_append_own _ rfl _ _ 25 rfl w.heap.size 9 i0 (.string ByteArray.empty) 1 16 Tryd.underlying25 hi0 iz0 iz1 iz2 rfl (by decide) _ _ _ rfl ((OwnS.bel HOL.out bl).1) ⟨w6.heap.size, 0, none⟩ 1 1 [.string x1_0] rfl rfl ?c1 ?c2 ?c3 ?c4 ?c5 ?_)))
  case c1 => exact cell_one_new _ _ _
  case c2 => intro u hu; simp at hu; subst hu; rfl
  case c3 => unfold maxLen; simp; omega
  case c4 => simp; omega
  case c5 => have h1 := hbw.size; have h2 := (show Bel wr w6 from hb6).size; simp at h2 ⊢; omega
  intro v9 w9 hown9 hgrow9 _
  have hw1 : Bel wr _ := (show Bel wr (w6.alloc (.cells #[.string x1_0] 9)) from Bel.trans hb6 bl)
  have hbB9 : Bel w w9 := Below.grown (Bel.trans hbw hw1) hgrow9 (by have h1 := hw1.size; have h2 := hbw.size; omega) (OwnS.base HOL.out)
  have hk9 : Kept wr w9 := Kept.trans (Kept.ofBel hw1) (Kept.grown (OwnS.bel HOL.out hw1) hgrow9)
  have ho9 := OwnS.snoc (show w9.ownsRow w.heap.size 9 1 v9 ((funL ++ seen).length + 1) ((funL ++ seen).map Value.string ++ [Value.string x1_0]) by have h := hown9; rw [List.length_append, HFL.out, List.map_append, List.append_assoc]; exact h) HOL.out.2 g1_0
  clear hown9 hgrow9
  have HO9 := hide (OwnS.cast ho9 (List.append_assoc _ _ _))
  have HK9 := hide hk9
  clear ho9 hk9
  go_wp2_with (fail)
  all_goals go_roundw
  case rel => exact ⟨m + 1, seen ++ [x1_0], by go_num, by omega, hide HNX.out, by simp; omega, OwnS.bel HO9.out bl, Bel.trans hbB9 bl, Kept.trans HKW.out (Kept.trans HK9.out (Kept.ofBel bl))⟩
  case measure => simp [intOf]; omega
end Go.Proofs.YtdacpljinffnaaaDoor
