/- CheckUnit: the program. -/
import Derived.Test.YtjodcciloflgbaaDoorPYx
import Derived.Test.YtjodcciloflgbaaDoorPYt
import Derived.Test.YtjodcciloflgbaaDoorPYn
namespace Go.Proofs.YtjodcciloflgbaaDoor
set_option linter.unusedVariables false
set_option linter.unusedSimpArgs false
set_option maxRecDepth 100000
open Go.RowKit
abbrev ChkC (f : FuncId) : Prop := ∀ (R : List TRecordType) (G : List ByteArray) (P : List TProcedure) (S : Nat → Prop) (w : World) (us : List Value), Sp w → Dat.HoldVals w S (TUnit.mk R G P).D us → Dat.wtL (TUnit.mk R G P).D ≤ 1048576 →
 Calls Tryd.prog f #[.agg us.toArray] w fun e w' => e = .returned (.tuple #[.int .i64 (chkU R G P).1, .int .i64 (chkU R G P).2]) ∧ Bel w w'
theorem chkU_no {R : List TRecordType} {G : List ByteArray} {P : List TProcedure} (h : unitB (.mk R G P) = false) : chkU R G P = (1, 0) := by unfold chkU; rw [h, if_neg (by simp)]
theorem chkU_nm {R : List TRecordType} {G : List ByteArray} {P : List TProcedure} (h : unitB (.mk R G P) = true) {a b : Int} (hn : nmR G P [] R = (a, b)) (ha : a ≠ 0) : chkU R G P = (a, b) := by unfold chkU; rw [h, if_pos rfl, hn, if_neg ha]
theorem chkU_go {R : List TRecordType} {G : List ByteArray} {P : List TProcedure} (h : unitB (.mk R G P) = true) {b : Int} (hn : nmR G P [] R = (0, b)) : chkU R G P = chQ R G P (P.drop 0) := by unfold chkU; rw [h, if_pos rfl, hn, if_pos rfl, List.drop_zero]
theorem main_yes {P : List TProcedure} {m : Nat} (h : m < P.length) (hq : mainQ P[m] = true) : P.any mainQ = true := List.any_eq_true.2 ⟨_, List.getElem_mem h, hq⟩
theorem main_no {P : List TProcedure} (h : ∀ j (hj : j < P.length), mainQ P[j] = false) : P.any mainQ = false := by
 rw [List.any_eq_false]
 intro x hx
 obtain ⟨j, hj, rfl⟩ := List.mem_iff_getElem.1 hx
 rw [h j hj]; simp
theorem mainS_list : mainS.toList = [109, 97, 105, 110] := by decide +kernel
theorem mainQ_eq {q : TProcedure} {nm : ByteArray} {ps : List ByteArray} (h1 : q.nm = nm) (h2 : q.pars = ps) : mainQ q = (decide (nm = mainS) && decide (ps.length = 0)) := by unfold mainQ; rw [h1, h2]
set_option maxHeartbeats 16000000 in
theorem implChk_of (hUnit : ∀ t, UnitC 28 t) : ChkC 12 := by
 have HUN := hide hUnit
 have HRES := hide (implRes_of hUnit)
 clear hUnit
 intro R G P S w us hsp hu hwt
 have HT := hide hsp
 have HU := hide hu
 have HWT := hide hwt
 obtain ⟨A0, c0, A1, c1, A2, c2, rfl, g0, g1, g2⟩ := TUnit.vals hu
 have HR0 := hide g0
 have hl0 := g0.1
 have hc0 := g0.2.1
 simp only [List.length_map] at hl0
 unfold maxLen at hc0
 have HR1 := hide g1
 have hl1 := g1.1
 have hc1 := g1.2.1
 simp only [List.length_map] at hl1
 unfold maxLen at hc1
 have HR2 := hide g2
 have hl2 := g2.1
 have hc2 := g2.2.1
 simp only [List.length_map] at hl2
 unfold maxLen at hc2
 clear hsp hu hwt g0 g1 g2
 cases hval : unitB (TUnit.mk R G P)
 case false => as_aux_lemma =>
  have HVAL := hide hval
  have RR := hide (chkU_no hval)
  clear hval
  go_enter Tryd.func12, Tryd.ntmps12
  go_wp2_with (go_at_call 28; refine (HUN.out (TUnit.mk R G P) S _ _ (HT.out.on bl) (Dat.HoldVals.bel bl HU.out) HWT.out).mono ?_; rintro e w1 ⟨rfl, hb1⟩; rw [HVAL.out]; (have hz1 := hb1.sz; obtain ⟨hk1_0, hf1_0, hl1_0, hn1_0⟩ := hb1.lay (w.heap.size)))
  all_goals
   go_returns
   exact ⟨ret_pair RR.out, bl⟩
 case true =>
 have HVAL := hide hval
 obtain ⟨⟨na, nb⟩, hn⟩ : ∃ q, nmR G P [] R = q := ⟨_, rfl⟩
 have HN := hide hn
 clear hval hn
 by_cases hna : na = 0
 case neg => as_aux_lemma =>
  have RR := hide (chkU_nm HVAL.out HN.out hna)
  have hnb : (na != 0) = true := by simpa using hna
  go_enter Tryd.func12, Tryd.ntmps12
  go_wp2_with (first | (go_at_call 28; refine (HUN.out (TUnit.mk R G P) S _ _ (HT.out.on bl) (Dat.HoldVals.bel bl HU.out) HWT.out).mono ?_; rintro e w1 ⟨rfl, hb1⟩; rw [HVAL.out]; (have hz1 := hb1.sz; obtain ⟨hk1_0, hf1_0, hl1_0, hn1_0⟩ := hb1.lay (w.heap.size))) | (go_at_call 38; refine (checkNames_any R G P S _ _ (HT.out.on bl) (Dat.HoldVals.bel bl HU.out) HVAL.out).mono ?_; rintro e w2 ⟨rfl, hb2⟩; rw [HN.out]; (have hz2 := hb2.sz; obtain ⟨hk2_0, hf2_0, hl2_0, hn2_0⟩ := hb2.lay (w.heap.size))))
  all_goals
   go_returns
   exact ⟨ret_pair RR.out, bl⟩
 case pos =>
 subst hna
 have HGO := hide (chkU_go HVAL.out HN.out)
 go_enter Tryd.func12, Tryd.ntmps12
 go_wp2_with (first | (go_at_call 28; refine (HUN.out (TUnit.mk R G P) S _ _ (HT.out.on bl) (Dat.HoldVals.bel bl HU.out) HWT.out).mono ?_; rintro e w1 ⟨rfl, hb1⟩; rw [HVAL.out]; (have hz1 := hb1.sz; obtain ⟨hk1_0, hf1_0, hl1_0, hn1_0⟩ := hb1.lay (w.heap.size))) | (go_at_call 38; refine (checkNames_any R G P S _ _ (HT.out.on bl) (Dat.HoldVals.bel bl HU.out) HVAL.out).mono ?_; rintro e w2 ⟨rfl, hb2⟩; rw [HN.out]; (have hz2 := hb2.sz; obtain ⟨hk2_0, hf2_0, hl2_0, hn2_0⟩ := hb2.lay (w.heap.size))))
 have hbw0 : Bel (w.alloc (.cells #[.slice A0 R.length c0, .slice A1 G.length c1, .slice A2 P.length c2] 33)) w2 := bl
 go_loopw [27] (fun iv wr => ∃ m : Nat, iv = .int .i64 m ∧ m ≤ P.length ∧ Hid (chkU R G P = chQ R G P (P.drop m)) ∧ Bel (w.alloc (.cells #[.slice A0 R.length c0, .slice A1 G.length c1, .slice A2 P.length c2] 33)) wr) (fun iv _ => P.length - (intOf iv).toNat)
 case atStart => exact ⟨0, rfl, by omega, hide HGO.out, bl⟩
 case round => as_aux_lemma =>
  clear hbw0
  obtain ⟨m, rfl, hm, hinv, hbx⟩ := hrel
  have hz0 := hbx.size
  simp only [World.size_alloc] at hz0
  have x0 := hbx.box w.heap.size (by simp)
  have uu0 : wr.cell? ⟨w.heap.size, 0, none⟩ = some (.slice A0 R.length c0) := (x0 0).trans (by simp)
  have uu1 : wr.cell? ⟨w.heap.size, 1, none⟩ = some (.slice A1 G.length c1) := (x0 1).trans (by simp)
  have uu2 : wr.cell? ⟨w.heap.size, 2, none⟩ = some (.slice A2 P.length c2) := (x0 2).trans (by simp)
  have hq0 : w.heap.size < wr.heap.size := by omega
  have hq1 : ¬ w.heap.size = wr.heap.size := by omega
  clear x0
  by_cases h1 : m < P.length
  case neg => as_aux_lemma =>
   have hd : decide ((m : Int) < (P.length : Int)) = false := by simp; omega
   have hdn : decide (m < P.length) = false := by simp; omega
   have HIN := hide (hinv.out.trans (chQ_end (by omega)))
   clear hinv
   go_wp2_with (fail)
   go_loopw [59] (fun iv wr => ∃ m : Nat, iv = .int .i64 m ∧ m ≤ P.length ∧ Hid (∀ j (hj : j < P.length), j < m → mainQ P[j] = false) ∧ Bel (w.alloc (.cells #[.slice A0 R.length c0, .slice A1 G.length c1, .slice A2 P.length c2] 33)) wr) (fun iv _ => P.length - (intOf iv).toNat)
   case atStart => exact ⟨0, rfl, by omega, hide (fun j _ h => by omega), bl⟩
   case round => as_aux_lemma =>
    clear uu0 uu1 uu2 hq0 hq1 hz0 hbx hd hdn h1 hm
    obtain ⟨m, rfl, hm, hmn, hbx⟩ := hrel
    have hz0 := hbx.size
    simp only [World.size_alloc] at hz0
    have x0 := hbx.box w.heap.size (by simp)
    have uu0 : wr.cell? ⟨w.heap.size, 0, none⟩ = some (.slice A0 R.length c0) := (x0 0).trans (by simp)
    have uu1 : wr.cell? ⟨w.heap.size, 1, none⟩ = some (.slice A1 G.length c1) := (x0 1).trans (by simp)
    have uu2 : wr.cell? ⟨w.heap.size, 2, none⟩ = some (.slice A2 P.length c2) := (x0 2).trans (by simp)
    have hq0 : w.heap.size < wr.heap.size := by omega
    have hq1 : ¬ w.heap.size = wr.heap.size := by omega
    clear x0
    by_cases h1 : m < P.length
    case neg => as_aux_lemma =>
     have hd : decide ((m : Int) < (P.length : Int)) = false := by simp; omega
     have hdn : decide (m < P.length) = false := by simp; omega
     have RR := hide (show chkU R G P = (3, 0) by rw [HIN.out, main_no (fun j hj => hmn.out j hj (by omega))]; rfl)
     clear hmn
     go_wp2_with (fail)
     all_goals
      go_returns
      exact ⟨ret_pair RR.out, bl⟩
    case pos =>
    have hd : decide ((m : Int) < (P.length : Int)) = true := by simp; omega
    have hdn : decide (m < P.length) = true := by simp; omega
    have hbw : Bel w wr := bl
    (obtain ⟨b1, o1, x1_0, x1_1, x1_2, x1_3, x1_4, x1_5, x1_6, x1_7, x1_8, A1_1, C1_1, A1_2, C1_2, A1_7, C1_7, hA1, hS1, hl1, hx1, hv1, g1_0, g1_1, g1_2, g1_3, g1_4, g1_5, g1_6, g1_7, g1_8, c1_0, c1_1, c1_2, c1_3, c1_4, c1_5, c1_6, c1_7, c1_8⟩ := TProcedure.at HR2.out m h1; subst hA1; have HV1 := hide (Dat.HoldVals.bel hbw hv1); have hh1 := hbw.box b1 hl1; have hw1 := Nat.lt_of_lt_of_le hl1 (Bel.size hbw); replace c1_0 := (hh1 _).trans c1_0; replace c1_1 := (hh1 _).trans c1_1; replace c1_2 := (hh1 _).trans c1_2; replace c1_3 := (hh1 _).trans c1_3; replace c1_4 := (hh1 _).trans c1_4; replace c1_5 := (hh1 _).trans c1_5; replace c1_6 := (hh1 _).trans c1_6; replace c1_7 := (hh1 _).trans c1_7; replace c1_8 := (hh1 _).trans c1_8; have HX1 := hide hx1; have GR1_1 := hide g1_1; have GR1_2 := hide g1_2; have GR1_7 := hide g1_7; clear hh1 hv1 hx1 hS1 g1_1 g1_2 g1_7)
    have hne1 : ¬ b1 = wr.heap.size := by omega
    have HQ1 := hide (show P[m].nm = x1_0 ∧ P[m].pars = x1_1 by rw [HX1.out]; exact ⟨rfl, rfl⟩)
    have HMQ := hide (mainQ_eq HQ1.out.1 HQ1.out.2)
    by_cases hnm : x1_0 = mainS
    case pos =>
     have hnb : (x1_0.toList == mainS.toList) = true := by rw [hnm]; simp
     have hnl : x1_0.toList = [109, 97, 105, 110] := by rw [hnm]; exact mainS_list
     unfold mainS at hnb
     by_cases hp : x1_1.length = 0
     case pos =>
      have hpb : ((x1_1.length : Int) == 0) = true := by rw [hp]; rfl
      have hpn : (x1_1.length == 0) = true := by rw [hp]; rfl
      have hpe : x1_1 = [] := List.eq_nil_of_length_eq_zero hp
      have RR := hide (show chkU R G P = (0, 0) by rw [HIN.out, main_yes h1 (by rw [HMQ.out, decide_eq_true hnm, decide_eq_true hp]; rfl)]; rfl)
      clear hnm
      go_wp2_with (fail)
      all_goals
       go_returns
       exact ⟨ret_pair RR.out, bl⟩
     case neg =>
      have hpb : ((x1_1.length : Int) == 0) = false := by rw [beq_eq_false_iff_ne]; omega
      have hpn : (x1_1.length == 0) = false := by rw [beq_eq_false_iff_ne]; omega
      have hpe : ¬ x1_1 = [] := fun h => hp (by rw [h]; rfl)
      have HMF := hide (show mainQ P[m] = false by rw [HMQ.out, decide_eq_false hp, Bool.and_false])
      clear hnm hp
      go_wp2_with (fail)
      all_goals go_roundw
      case rel => exact ⟨m + 1, by go_num, by omega, hide (fun j hj hjm => by
       by_cases e : j = m
       ·
        subst e; exact HMF.out
       ·
        exact hmn.out j hj (by omega)), bl⟩
      case measure => simp [intOf]; omega
    case neg =>
     have hnb : (x1_0.toList == mainS.toList) = false := by rw [beq_eq_false_iff_ne]; exact fun h => hnm ((ba_eq _ _).1 h)
     have hnl : ¬ x1_0.toList = [109, 97, 105, 110] := fun h => hnm ((ba_eq _ _).1 (h.trans mainS_list.symm))
     unfold mainS at hnb
     have HMF := hide (show mainQ P[m] = false by rw [HMQ.out, decide_eq_false hnm, Bool.false_and])
     clear hnm
     go_wp2_with (fail)
     all_goals go_roundw
     case rel => exact ⟨m + 1, by go_num, by omega, hide (fun j hj hjm => by
      by_cases e : j = m
      ·
       subst e; exact HMF.out
      ·
       exact hmn.out j hj (by omega)), bl⟩
     case measure => simp [intOf]; omega
  case pos =>
  have hd : decide ((m : Int) < (P.length : Int)) = true := by simp; omega
  have hdn : decide (m < P.length) = true := by simp; omega
  have hbw : Bel w wr := bl
  have hle0 := hq0
  have HPP := hide (proc_parts (proc_ok HVAL.out h1))
  (obtain ⟨b1, o1, x1_0, x1_1, x1_2, x1_3, x1_4, x1_5, x1_6, x1_7, x1_8, A1_1, C1_1, A1_2, C1_2, A1_7, C1_7, hA1, hS1, hl1, hx1, hv1, g1_0, g1_1, g1_2, g1_3, g1_4, g1_5, g1_6, g1_7, g1_8, c1_0, c1_1, c1_2, c1_3, c1_4, c1_5, c1_6, c1_7, c1_8⟩ := TProcedure.at HR2.out m h1; subst hA1; have HV1 := hide (Dat.HoldVals.bel hbw hv1); have hh1 := hbw.box b1 hl1; have hw1 := Nat.lt_of_lt_of_le hl1 (Bel.size hbw); replace c1_0 := (hh1 _).trans c1_0; replace c1_1 := (hh1 _).trans c1_1; replace c1_2 := (hh1 _).trans c1_2; replace c1_3 := (hh1 _).trans c1_3; replace c1_4 := (hh1 _).trans c1_4; replace c1_5 := (hh1 _).trans c1_5; replace c1_6 := (hh1 _).trans c1_6; replace c1_7 := (hh1 _).trans c1_7; replace c1_8 := (hh1 _).trans c1_8; have HX1 := hide hx1; have GR1_1 := hide g1_1; have GR1_2 := hide g1_2; have GR1_7 := hide g1_7; clear hh1 hv1 hx1 hS1 g1_1 g1_2 g1_7)
  have hne1 : ¬ b1 = wr.heap.size := by omega
  have HQ1 := hide (show P[m].nm = x1_0 ∧ P[m].pars = x1_1 ∧ P[m].body = (TExpr.mk x1_3 x1_4 x1_5 x1_6 x1_7) ∧ P[m].line = x1_8 by rw [HX1.out]; exact ⟨rfl, rfl, rfl, rfl⟩)
  have HVB := hide (TExpr.vals_mk g1_3 g1_4 g1_5 g1_6 GR1_7.out)
  have HCB := hide (show (TExpr.mk x1_3 x1_4 x1_5 x1_6 x1_7).cnt ≤ 600 by have h := HPP.out.2.2.2.1; rw [HQ1.out.2.2.1] at h; exact h)
  obtain ⟨LL, hLL⟩ : ∃ LL, locL R G P P[m] = LL := ⟨_, rfl⟩
  have HLL := hide hLL
  have hll : LL.length ≤ 700 := by rw [← hLL, ← loc_in HVAL.out h1]; exact locF_len R G P m
  obtain ⟨cs, hcs⟩ : ∃ cs, (TExpr.mk x1_3 x1_4 x1_5 x1_6 x1_7).cas = cs := ⟨_, rfl⟩
  have HCS := hide hcs
  have hcsb : cs ≤ 600 := by rw [← hcs]; exact Nat.le_trans (TExpr.cas_le _) HCB.out
  obtain ⟨q, hq⟩ : ∃ q, (TExpr.mk x1_3 x1_4 x1_5 x1_6 x1_7).chk (isL R G P P[m]) (isG R G P) (isF R) false false = q := ⟨_, rfl⟩
  obtain ⟨qc, ql⟩ := q
  have HQ := hide hq
  have HNX := hide (show chkU R G P = if qc = 0 then (if LL.length + cs > 24 then (7, x1_8) else chQ R G P (P.drop (m + 1))) else (qc, ql) by
   have h := hinv.out
   rw [chQ_at h1] at h
   rw [h]
   unfold chkQ
   rw [hLL, HQ1.out.2.2.1, HQ1.out.2.2.2, hcs, hq])
  clear hLL hcs hq hinv
  by_cases hqc : qc = 0
  case neg => as_aux_lemma =>
   have hqb : (qc != 0) = true := by simpa using hqc
   have RR := hide (show chkU R G P = (qc, ql) by rw [HNX.out, if_neg hqc])
   go_wp2_with (go_at_call 39; refine (checkNode_any HRES.out (TExpr.mk x1_3 x1_4 x1_5 x1_6 x1_7) R G P m h1 S _ _ _ false false (HT.out.on bl) (Dat.HoldVals.bel bl HU.out) HWT.out HVAL.out (Dat.HoldVals.bel bl HVB.out)).mono ?_; rintro e w3 ⟨rfl, hb3⟩; rw [HQ.out]; (have hz3 := hb3.sz; obtain ⟨hk3_0, hf3_0, hl3_0, hn3_0⟩ := hb3.lay (w.heap.size); obtain ⟨hk3_1, hf3_1, hl3_1, hn3_1⟩ := hb3.lay (wr.heap.size)))
   all_goals
    go_returns
    exact ⟨ret_pair RR.out, bl⟩
  case pos =>
  subst hqc
  have HNX2 := hide (HNX.out.trans (if_pos rfl))
  go_upto_region 12 with (go_at_call 39; refine (checkNode_any HRES.out (TExpr.mk x1_3 x1_4 x1_5 x1_6 x1_7) R G P m h1 S _ _ _ false false (HT.out.on bl) (Dat.HoldVals.bel bl HU.out) HWT.out HVAL.out (Dat.HoldVals.bel bl HVB.out)).mono ?_; rintro e w3 ⟨rfl, hb3⟩; rw [HQ.out]; (have hz3 := hb3.sz; obtain ⟨hk3_0, hf3_0, hl3_0, hn3_0⟩ := hb3.lay (w.heap.size); obtain ⟨hk3_1, hf3_1, hl3_1, hn3_1⟩ := hb3.lay (wr.heap.size)))
  have e3_0 : w3.cell? ⟨w.heap.size, 0, none⟩ = some (.slice A0 R.length c0) := (hk3_0 0).trans ((Bel.box (W := wr) bl w.heap.size hle0 0).trans uu0)
  have e3_1 : w3.cell? ⟨w.heap.size, 1, none⟩ = some (.slice A1 G.length c1) := (hk3_0 1).trans ((Bel.box (W := wr) bl w.heap.size hle0 1).trans uu1)
  have e3_2 : w3.cell? ⟨w.heap.size, 2, none⟩ = some (.slice (some ⟨b1, o1, none⟩) P.length c2) := (hk3_0 2).trans ((Bel.box (W := wr) bl w.heap.size hle0 2).trans uu2)
  have f3_0 : w3.cell? ⟨wr.heap.size, 0, none⟩ = some (.string x1_0) := (hk3_1 0).trans (by simp)
  have f3_1 : w3.cell? ⟨wr.heap.size, 1, none⟩ = some (.slice A1_1 x1_1.length C1_1) := (hk3_1 1).trans (by simp)
  have f3_2 : w3.cell? ⟨wr.heap.size, 2, none⟩ = some (.slice A1_2 x1_2.length C1_2) := (hk3_1 2).trans (by simp)
  have f3_3 : w3.cell? ⟨wr.heap.size, 3, none⟩ = some (.int .i64 x1_3) := (hk3_1 3).trans (by simp)
  have f3_4 : w3.cell? ⟨wr.heap.size, 4, none⟩ = some (.string x1_4) := (hk3_1 4).trans (by simp)
  have f3_5 : w3.cell? ⟨wr.heap.size, 5, none⟩ = some (.int .i64 x1_5) := (hk3_1 5).trans (by simp)
  have f3_6 : w3.cell? ⟨wr.heap.size, 6, none⟩ = some (.int .i64 x1_6) := (hk3_1 6).trans (by simp)
  have f3_7 : w3.cell? ⟨wr.heap.size, 7, none⟩ = some (.slice A1_7 x1_7.length C1_7) := (hk3_1 7).trans (by simp)
  have f3_8 : w3.cell? ⟨wr.heap.size, 8, none⟩ = some (.int .i64 x1_8) := (hk3_1 8).trans (by simp)
  by_cases hbig : LL.length + cs > 24
  case pos => as_aux_lemma =>
   have hbg : decide ((24 : Int) < (LL.length : Int) + (cs : Int)) = true := by simp; omega
   have hww : IntKind.i64.wrap ((LL.length : Int) + (cs : Int)) = (LL.length : Int) + (cs : Int) := by rw [IntKind.wrap_i64]; omega
   have RR := hide (show chkU R G P = (7, x1_8) from HNX2.out.trans (if_pos hbig))
   refine wp_region_held_drew (S := fun w' => w'.cell? ⟨w.heap.size, 0, none⟩ = some (.slice A0 R.length c0) ∧ w'.cell? ⟨w.heap.size, 1, none⟩ = some (.slice A1 G.length c1) ∧ w'.cell? ⟨w.heap.size, 2, none⟩ = some (.slice (some ⟨b1, o1, none⟩) P.length c2) ∧ w'.cell? ⟨wr.heap.size, 3, none⟩ = some (.int .i64 x1_3) ∧ w'.cell? ⟨wr.heap.size, 4, none⟩ = some (.string x1_4) ∧ w'.cell? ⟨wr.heap.size, 5, none⟩ = some (.int .i64 x1_5) ∧ w'.cell? ⟨wr.heap.size, 6, none⟩ = some (.int .i64 x1_6) ∧ w'.cell? ⟨wr.heap.size, 7, none⟩ = some (.slice A1_7 x1_7.length C1_7) ∧ w'.cell? ⟨wr.heap.size, 8, none⟩ = some (.int .i64 x1_8)) (by kernel_rfl) ?_ (fun hHeld => ?_)
   ·
    exact ⟨(Bel.box (W := w3) (by first | exact hb35 | exact hb34 | exact bl) w.heap.size hl3_0 _).trans e3_0, (Bel.box (W := w3) (by first | exact hb35 | exact hb34 | exact bl) w.heap.size hl3_0 _).trans e3_1, (Bel.box (W := w3) (by first | exact hb35 | exact hb34 | exact bl) w.heap.size hl3_0 _).trans e3_2, (Bel.box (W := w3) (by first | exact hb35 | exact hb34 | exact bl) wr.heap.size hl3_1 _).trans f3_3, (Bel.box (W := w3) (by first | exact hb35 | exact hb34 | exact bl) wr.heap.size hl3_1 _).trans f3_4, (Bel.box (W := w3) (by first | exact hb35 | exact hb34 | exact bl) wr.heap.size hl3_1 _).trans f3_5, (Bel.box (W := w3) (by first | exact hb35 | exact hb34 | exact bl) wr.heap.size hl3_1 _).trans f3_6, (Bel.box (W := w3) (by first | exact hb35 | exact hb34 | exact bl) wr.heap.size hl3_1 _).trans f3_7, (Bel.box (W := w3) (by first | exact hb35 | exact hb34 | exact bl) wr.heap.size hl3_1 _).trans f3_8⟩
   refine tkI 0 ?_
   refine tkI 1 ?_
   refine tkI 4 ?_
   refine tkI 5 ?_
   refine wpAnyH_ready (rs := [2]) (by kernel_rfl) (by simp) ?_
   refine AllReadyH.cons (o := _) rfl (fun K hK => ?_) AllReadyH.nil
   go_simp
   clear hHeld
   (go_at_call 30; refine (implLoc_any R G P m h1 S _ _ (HT.out.on bl) (Dat.HoldVals.bel bl HU.out) HWT.out HVAL.out).mono ?_; rintro e w4 ⟨v4, rfl, ho4, hb4⟩; rw [HLL.out] at ho4; obtain ⟨LA, lc, rfl, -⟩ := OwnS.row ho4; clear ho4; have hb34 : Bel w3 w4 := bl)
   refine hK.out _ _ ?_ (fun hHeld => ?_)
   ·
    exact ⟨(Bel.box (W := w3) (by first | exact hb35 | exact hb34 | exact bl) w.heap.size hl3_0 _).trans e3_0, (Bel.box (W := w3) (by first | exact hb35 | exact hb34 | exact bl) w.heap.size hl3_0 _).trans e3_1, (Bel.box (W := w3) (by first | exact hb35 | exact hb34 | exact bl) w.heap.size hl3_0 _).trans e3_2, (Bel.box (W := w3) (by first | exact hb35 | exact hb34 | exact bl) wr.heap.size hl3_1 _).trans f3_3, (Bel.box (W := w3) (by first | exact hb35 | exact hb34 | exact bl) wr.heap.size hl3_1 _).trans f3_4, (Bel.box (W := w3) (by first | exact hb35 | exact hb34 | exact bl) wr.heap.size hl3_1 _).trans f3_5, (Bel.box (W := w3) (by first | exact hb35 | exact hb34 | exact bl) wr.heap.size hl3_1 _).trans f3_6, (Bel.box (W := w3) (by first | exact hb35 | exact hb34 | exact bl) wr.heap.size hl3_1 _).trans f3_7, (Bel.box (W := w3) (by first | exact hb35 | exact hb34 | exact bl) wr.heap.size hl3_1 _).trans f3_8⟩
   clear hK K
   (try simp only [Act.put, List.setIfInBounds_toArray, List.set_cons_zero, List.set_cons_succ, List.getElem_toArray, List.getElem_cons_zero, List.getElem_cons_succ])
   refine tkI 3 ?_
   refine wpAnyH_ready (rs := [6]) (by kernel_rfl) (by simp) ?_
   refine AllReadyH.cons (o := _) rfl (fun K hK => ?_) AllReadyH.nil
   go_simp
   clear hHeld
   (go_at_call 40; refine (countCases_any (TExpr.mk x1_3 x1_4 x1_5 x1_6 x1_7) S _ _ (Dat.HoldVals.bel bl HVB.out) (by have := HCB.out; omega)).mono ?_; rintro e w5 ⟨rfl, hb5⟩; rw [HCS.out]; have hb35 : Bel w3 w5 := bl)
   refine hK.out _ _ ?_ (fun hHeld => ?_)
   ·
    exact ⟨(Bel.box (W := w3) (by first | exact hb35 | exact hb34 | exact bl) w.heap.size hl3_0 _).trans e3_0, (Bel.box (W := w3) (by first | exact hb35 | exact hb34 | exact bl) w.heap.size hl3_0 _).trans e3_1, (Bel.box (W := w3) (by first | exact hb35 | exact hb34 | exact bl) w.heap.size hl3_0 _).trans e3_2, (Bel.box (W := w3) (by first | exact hb35 | exact hb34 | exact bl) wr.heap.size hl3_1 _).trans f3_3, (Bel.box (W := w3) (by first | exact hb35 | exact hb34 | exact bl) wr.heap.size hl3_1 _).trans f3_4, (Bel.box (W := w3) (by first | exact hb35 | exact hb34 | exact bl) wr.heap.size hl3_1 _).trans f3_5, (Bel.box (W := w3) (by first | exact hb35 | exact hb34 | exact bl) wr.heap.size hl3_1 _).trans f3_6, (Bel.box (W := w3) (by first | exact hb35 | exact hb34 | exact bl) wr.heap.size hl3_1 _).trans f3_7, (Bel.box (W := w3) (by first | exact hb35 | exact hb34 | exact bl) wr.heap.size hl3_1 _).trans f3_8⟩
   clear hK K
   (try simp only [Act.put, List.setIfInBounds_toArray, List.set_cons_zero, List.set_cons_succ, List.getElem_toArray, List.getElem_cons_zero, List.getElem_cons_succ])
   refine tkI 7 ?_
   refine tkI 8 ?_
   refine wpAnyH_done (by kernel_rfl) ?_ _
   have hb3z : Bel w3 w5 := hb35
   have f5_8 : w5.cell? ⟨wr.heap.size, 8, none⟩ = some (.int .i64 x1_8) := (hb35.box wr.heap.size hl3_1 8).trans f3_8
   have h5l : wr.heap.size < w5.heap.size := by have := hb35.size; omega
   go_wp2_with (fail)
   all_goals (try (go_quiet (fail)))
   all_goals (try (go_wp2_with (fail)))
   all_goals
    go_returns
    exact ⟨ret_pair RR.out, bl⟩
  case neg => as_aux_lemma =>
   have hbg : decide ((24 : Int) < (LL.length : Int) + (cs : Int)) = false := by simp; omega
   have hww : IntKind.i64.wrap ((LL.length : Int) + (cs : Int)) = (LL.length : Int) + (cs : Int) := by rw [IntKind.wrap_i64]; omega
   have HN3 := hide (show chkU R G P = chQ R G P (P.drop (m + 1)) from HNX2.out.trans (if_neg hbig))
   refine wp_region_held_drew (S := fun w' => w'.cell? ⟨w.heap.size, 0, none⟩ = some (.slice A0 R.length c0) ∧ w'.cell? ⟨w.heap.size, 1, none⟩ = some (.slice A1 G.length c1) ∧ w'.cell? ⟨w.heap.size, 2, none⟩ = some (.slice (some ⟨b1, o1, none⟩) P.length c2) ∧ w'.cell? ⟨wr.heap.size, 3, none⟩ = some (.int .i64 x1_3) ∧ w'.cell? ⟨wr.heap.size, 4, none⟩ = some (.string x1_4) ∧ w'.cell? ⟨wr.heap.size, 5, none⟩ = some (.int .i64 x1_5) ∧ w'.cell? ⟨wr.heap.size, 6, none⟩ = some (.int .i64 x1_6) ∧ w'.cell? ⟨wr.heap.size, 7, none⟩ = some (.slice A1_7 x1_7.length C1_7) ∧ w'.cell? ⟨wr.heap.size, 8, none⟩ = some (.int .i64 x1_8)) (by kernel_rfl) ?_ (fun hHeld => ?_)
   ·
    exact ⟨(Bel.box (W := w3) (by first | exact hb35 | exact hb34 | exact bl) w.heap.size hl3_0 _).trans e3_0, (Bel.box (W := w3) (by first | exact hb35 | exact hb34 | exact bl) w.heap.size hl3_0 _).trans e3_1, (Bel.box (W := w3) (by first | exact hb35 | exact hb34 | exact bl) w.heap.size hl3_0 _).trans e3_2, (Bel.box (W := w3) (by first | exact hb35 | exact hb34 | exact bl) wr.heap.size hl3_1 _).trans f3_3, (Bel.box (W := w3) (by first | exact hb35 | exact hb34 | exact bl) wr.heap.size hl3_1 _).trans f3_4, (Bel.box (W := w3) (by first | exact hb35 | exact hb34 | exact bl) wr.heap.size hl3_1 _).trans f3_5, (Bel.box (W := w3) (by first | exact hb35 | exact hb34 | exact bl) wr.heap.size hl3_1 _).trans f3_6, (Bel.box (W := w3) (by first | exact hb35 | exact hb34 | exact bl) wr.heap.size hl3_1 _).trans f3_7, (Bel.box (W := w3) (by first | exact hb35 | exact hb34 | exact bl) wr.heap.size hl3_1 _).trans f3_8⟩
   refine tkI 0 ?_
   refine tkI 1 ?_
   refine tkI 4 ?_
   refine tkI 5 ?_
   refine wpAnyH_ready (rs := [2]) (by kernel_rfl) (by simp) ?_
   refine AllReadyH.cons (o := _) rfl (fun K hK => ?_) AllReadyH.nil
   go_simp
   clear hHeld
   (go_at_call 30; refine (implLoc_any R G P m h1 S _ _ (HT.out.on bl) (Dat.HoldVals.bel bl HU.out) HWT.out HVAL.out).mono ?_; rintro e w4 ⟨v4, rfl, ho4, hb4⟩; rw [HLL.out] at ho4; obtain ⟨LA, lc, rfl, -⟩ := OwnS.row ho4; clear ho4; have hb34 : Bel w3 w4 := bl)
   refine hK.out _ _ ?_ (fun hHeld => ?_)
   ·
    exact ⟨(Bel.box (W := w3) (by first | exact hb35 | exact hb34 | exact bl) w.heap.size hl3_0 _).trans e3_0, (Bel.box (W := w3) (by first | exact hb35 | exact hb34 | exact bl) w.heap.size hl3_0 _).trans e3_1, (Bel.box (W := w3) (by first | exact hb35 | exact hb34 | exact bl) w.heap.size hl3_0 _).trans e3_2, (Bel.box (W := w3) (by first | exact hb35 | exact hb34 | exact bl) wr.heap.size hl3_1 _).trans f3_3, (Bel.box (W := w3) (by first | exact hb35 | exact hb34 | exact bl) wr.heap.size hl3_1 _).trans f3_4, (Bel.box (W := w3) (by first | exact hb35 | exact hb34 | exact bl) wr.heap.size hl3_1 _).trans f3_5, (Bel.box (W := w3) (by first | exact hb35 | exact hb34 | exact bl) wr.heap.size hl3_1 _).trans f3_6, (Bel.box (W := w3) (by first | exact hb35 | exact hb34 | exact bl) wr.heap.size hl3_1 _).trans f3_7, (Bel.box (W := w3) (by first | exact hb35 | exact hb34 | exact bl) wr.heap.size hl3_1 _).trans f3_8⟩
   clear hK K
   (try simp only [Act.put, List.setIfInBounds_toArray, List.set_cons_zero, List.set_cons_succ, List.getElem_toArray, List.getElem_cons_zero, List.getElem_cons_succ])
   refine tkI 3 ?_
   refine wpAnyH_ready (rs := [6]) (by kernel_rfl) (by simp) ?_
   refine AllReadyH.cons (o := _) rfl (fun K hK => ?_) AllReadyH.nil
   go_simp
   clear hHeld
   (go_at_call 40; refine (countCases_any (TExpr.mk x1_3 x1_4 x1_5 x1_6 x1_7) S _ _ (Dat.HoldVals.bel bl HVB.out) (by have := HCB.out; omega)).mono ?_; rintro e w5 ⟨rfl, hb5⟩; rw [HCS.out]; have hb35 : Bel w3 w5 := bl)
   refine hK.out _ _ ?_ (fun hHeld => ?_)
   ·
    exact ⟨(Bel.box (W := w3) (by first | exact hb35 | exact hb34 | exact bl) w.heap.size hl3_0 _).trans e3_0, (Bel.box (W := w3) (by first | exact hb35 | exact hb34 | exact bl) w.heap.size hl3_0 _).trans e3_1, (Bel.box (W := w3) (by first | exact hb35 | exact hb34 | exact bl) w.heap.size hl3_0 _).trans e3_2, (Bel.box (W := w3) (by first | exact hb35 | exact hb34 | exact bl) wr.heap.size hl3_1 _).trans f3_3, (Bel.box (W := w3) (by first | exact hb35 | exact hb34 | exact bl) wr.heap.size hl3_1 _).trans f3_4, (Bel.box (W := w3) (by first | exact hb35 | exact hb34 | exact bl) wr.heap.size hl3_1 _).trans f3_5, (Bel.box (W := w3) (by first | exact hb35 | exact hb34 | exact bl) wr.heap.size hl3_1 _).trans f3_6, (Bel.box (W := w3) (by first | exact hb35 | exact hb34 | exact bl) wr.heap.size hl3_1 _).trans f3_7, (Bel.box (W := w3) (by first | exact hb35 | exact hb34 | exact bl) wr.heap.size hl3_1 _).trans f3_8⟩
   clear hK K
   (try simp only [Act.put, List.setIfInBounds_toArray, List.set_cons_zero, List.set_cons_succ, List.getElem_toArray, List.getElem_cons_zero, List.getElem_cons_succ])
   refine tkI 7 ?_
   refine tkI 8 ?_
   refine wpAnyH_done (by kernel_rfl) ?_ _
   have hb3z : Bel w3 w5 := hb35
   have f5_8 : w5.cell? ⟨wr.heap.size, 8, none⟩ = some (.int .i64 x1_8) := (hb35.box wr.heap.size hl3_1 8).trans f3_8
   have h5l : wr.heap.size < w5.heap.size := by have := hb35.size; omega
   go_wp2_with (fail)
   all_goals go_roundw
   case rel => exact ⟨m + 1, by go_num, by omega, hide HN3.out, bl⟩
   case measure => simp [intOf]; omega
end Go.Proofs.YtjodcciloflgbaaDoor
