/- Expressions: the reference. -/
import Derived.Test.YtdacpljinffnaaaDoorPY3
namespace Go.Proofs.YtdacpljinffnaaaDoor
set_option linter.unusedVariables false
set_option linter.unusedSimpArgs false
set_option maxRecDepth 100000
open Go.RowKit
theorem vldE_no {k n li : Int} {t : ByteArray} {ks : List TExpr} {d : Bool} (h : (hdE k li ks.length && txtE k t && numE k n ks.length) = false) : (d && (TExpr.mk k t n li ks).vld) = false := by rw [vldE_mk, h, Bool.false_and, Bool.and_false]
theorem vldE_kid {k n li deep : Int} {t : ByteArray} {ks : List TExpr} (m : Nat) (hm : m < ks.length) (h : (decide (deep + 1 + (ks[m].dep : Int) ≤ 41) && ks[m].vld) = false) :
  (decide (deep + ((TExpr.mk k t n li ks).dep : Int) ≤ 41) && (TExpr.mk k t n li ks).vld) = false := by
 rw [Bool.and_eq_false_iff] at h ⊢
 rcases h with h | h
 ·
  refine Or.inl ?_
  rw [decide_eq_false_iff_not] at h ⊢
  have := TExpr.dep_le hm
  simp only [TExpr.dep]
  omega
 ·
  refine Or.inr ?_
  rw [vldE_mk, TExpr.vlds_at hm h, Bool.and_false]
theorem vldE_yes {k n li deep : Int} {t : ByteArray} {ks : List TExpr} (hd : deep ≤ 40) (h : (hdE k li ks.length && txtE k t && numE k n ks.length) = true)
  (hk : ∀ m (hm : m < ks.length), (decide (deep + 1 + (ks[m].dep : Int) ≤ 41) && ks[m].vld) = true) :
  (decide (deep + ((TExpr.mk k t n li ks).dep : Int) ≤ 41) && (TExpr.mk k t n li ks).vld) = true := by
 rw [vldE_mk, h, TExpr.vlds_all fun m hm => (Bool.and_eq_true_iff.1 (hk m hm)).2]
 have : TExpr.deps ks ≤ (40 - deep).toNat := (TExpr.deps_iff _ ks).2 fun x hx => by
  obtain ⟨m, hm, rfl⟩ := List.mem_iff_getElem.1 hx
  have := (Bool.and_eq_true_iff.1 (hk m hm)).1
  rw [decide_eq_true_eq] at this
  omega
 have h5 : deep + ((TExpr.mk k t n li ks).dep : Int) ≤ 41 := by simp only [TExpr.dep]; omega
 rw [decide_eq_true h5]
 rfl
theorem hd20 {li : Int} {m : Nat} (h : hdE 20 li m = true) : 1 ≤ m ∧ m ≤ 14 := by
 unfold hdE at h
 rw [show lohiE 20 = (1, 14) by unfold lohiE; simp] at h
 simp only [Bool.and_eq_true, decide_eq_true_eq] at h
 omega
abbrev SVldE (t : TExpr) : Prop := ∀ (S : Nat → Prop) (w : World) (vs : List Value) (deep : Int), Dat.HoldVals w S t.D vs → 1 ≤ deep → deep ≤ 41 →
 Calls Tryd.prog 53 #[.agg vs.toArray, .int .i64 deep] w fun e w' => e = .returned (.bool (decide (deep + (t.dep : Int) ≤ 41) && t.vld)) ∧ Bel w w'
set_option maxHeartbeats 8000000 in
theorem l6Valid_mk (k n li : Int) (t : ByteArray) (ks : List TExpr) (IH : ∀ (i : Nat) (hi : i < ks.length), SVldE ks[i]) : SVldE (.mk k t n li ks) := by
 intro S w vs deep hv hd0 hd1
 have IH' := hide IH
 obtain ⟨A, c, rfl, -, hts, hn, hli, hR⟩ := TExpr.vals hv
 have HR := hide hR
 have hlc := HR.out.1
 have hcm := HR.out.2.1
 simp only [List.length_map] at hlc
 unfold maxLen at hcm
 have HTS := hide hts
 unfold maxLen at hts
 clear IH hR hv
 obtain ⟨lo, hi, hL⟩ : ∃ lo hi, lohiE k = (lo, hi) := ⟨_, _, rfl⟩
 have HL := hide hL
 have HH := hide (show hdE k li ks.length = (decide (1 ≤ k) && decide (k ≤ 29) && decide (0 ≤ li) && decide (lo ≤ (ks.length : Int)) && decide ((ks.length : Int) ≤ hi)) by unfold hdE; rw [hL])
 clear hL
 obtain ⟨bA, hbA⟩ : ∃ bA, (decide (deep ≤ 40) && hdE k li ks.length && txtE k t) = bA := ⟨_, rfl⟩
 have HA := hide hbA
 clear hbA
 go_enter Tryd.func53, Tryd.ntmps53
 go_upto_region 2 with (go_at_call 40; refine (l6Counts_any _ _ _ _ _ _ _ _).mono ?_; rintro e w1 ⟨rfl, hb1⟩; rw [HL.out]; (have hz1 := hb1.sz; obtain ⟨hk1_0, hf1_0, hl1_0, hn1_0⟩ := hb1.lay (w.heap.size)))
 go_cut [48] from 8 (fun v wx => v = .bool (!bA) ∧ Bel (w.alloc (.cells #[.int .i64 k, .string t, .int .i64 n, .int .i64 li, .slice A ks.length c] 42)) wx)
 case first => as_aux_lemma =>
  by_cases c1 : deep ≤ 40
  case neg => as_aux_lemma =>
   have c1f : decide (40 < deep) = true := by simp; omega
   obtain rfl : false = bA := by rw [← HA.out, decide_eq_false c1]; simp
   clear c1
   go_wp2_with (fail)
   all_goals go_meet
   all_goals exact ⟨rfl, bl⟩
  case pos =>
  have c1f : decide (40 < deep) = false := by simp; omega
  by_cases c2 : 1 ≤ k
  case neg => as_aux_lemma =>
   have c2f : decide (k < 1) = true := by simp; omega
   obtain rfl : false = bA := by rw [← HA.out, HH.out, decide_eq_false c2]; simp
   clear c2
   go_wp2_with (fail)
   all_goals go_meet
   all_goals exact ⟨rfl, bl⟩
  case pos =>
  have c2f : decide (k < 1) = false := by simp; omega
  by_cases c3 : k ≤ 29
  case neg => as_aux_lemma =>
   have c3f : decide (29 < k) = true := by simp; omega
   obtain rfl : false = bA := by rw [← HA.out, HH.out, decide_eq_false c3]; simp
   clear c3
   go_wp2_with (fail)
   all_goals go_meet
   all_goals exact ⟨rfl, bl⟩
  case pos =>
  have c3f : decide (29 < k) = false := by simp; omega
  by_cases c4 : 0 ≤ li
  case neg => as_aux_lemma =>
   have c4f : decide (li < 0) = true := by simp; omega
   obtain rfl : false = bA := by rw [← HA.out, HH.out, decide_eq_false c4]; simp
   clear c4
   go_wp2_with (fail)
   all_goals go_meet
   all_goals exact ⟨rfl, bl⟩
  case pos =>
  have c4f : decide (li < 0) = false := by simp; omega
  by_cases c5 : lo ≤ (ks.length : Int)
  case neg => as_aux_lemma =>
   have c5f : decide ((ks.length : Int) < lo) = true := by simp; omega
   obtain rfl : false = bA := by rw [← HA.out, HH.out, decide_eq_false c5]; simp
   clear c5
   go_wp2_with (fail)
   all_goals go_meet
   all_goals exact ⟨rfl, bl⟩
  case pos =>
  have c5f : decide ((ks.length : Int) < lo) = false := by simp; omega
  by_cases c6 : (ks.length : Int) ≤ hi
  case neg => as_aux_lemma =>
   have c6f : decide (hi < (ks.length : Int)) = true := by simp; omega
   obtain rfl : false = bA := by rw [← HA.out, HH.out, decide_eq_false c6]; simp
   clear c6
   go_wp2_with (fail)
   all_goals go_meet
   all_goals exact ⟨rfl, bl⟩
  case pos =>
  have c6f : decide (hi < (ks.length : Int)) = false := by simp; omega
  have HHT := hide (show hdE k li ks.length = true by rw [HH.out, decide_eq_true c2, decide_eq_true c3, decide_eq_true c4, decide_eq_true c5, decide_eq_true c6]; rfl)
  cases htx : txtE k t
  case false => as_aux_lemma =>
   have HTX := hide htx
   obtain rfl : false = bA := by rw [← HA.out, HHT.out, htx, decide_eq_true c1]; rfl
   clear htx
   go_wp2_with (go_at_call 65; refine (l6Words_any _ _ _ _ _ _ _ _ HTS.out).mono ?_; rintro e w2 ⟨rfl, hb2⟩; rw [HTX.out])
   all_goals go_meet
   all_goals exact ⟨rfl, bl⟩
  case true => as_aux_lemma =>
   have HTX := hide htx
   obtain rfl : true = bA := by rw [← HA.out, HHT.out, htx, decide_eq_true c1]; rfl
   clear htx
   go_wp2_with (go_at_call 65; refine (l6Words_any _ _ _ _ _ _ _ _ HTS.out).mono ?_; rintro e w2 ⟨rfl, hb2⟩; rw [HTX.out])
   all_goals go_meet
   all_goals exact ⟨rfl, bl⟩
 case rest =>
 obtain ⟨rfl, hbc⟩ := hcut
 have hz0 := hbc.size
 simp only [World.size_alloc] at hz0
 have x0 := hbc.box w.heap.size (by simp)
 have hl0 : w.heap.size < wc.heap.size := by omega
 have hn0 : ¬ w.heap.size = wc.heap.size := by omega
 cases bA
 case false => as_aux_lemma =>
  have RR := hide (show (decide (deep + ((TExpr.mk k t n li ks).dep : Int) ≤ 41) && (TExpr.mk k t n li ks).vld) = false by
   have := HA.out
   by_cases c1 : deep ≤ 40
   ·
    refine vldE_no ?_
    rw [decide_eq_true c1, Bool.true_and] at this
    rw [this]; rfl
   ·
    rw [decide_eq_false (show ¬ deep + ((TExpr.mk k t n li ks).dep : Int) ≤ 41 by simp only [TExpr.dep]; omega)]; rfl)
  go_wp2_with (fail)
  all_goals
   go_returns
   exact ⟨ret_bl RR.out.symm, bl⟩
 case true =>
 simp only [Bool.not_true]
 have hA2 := HA.out
 simp only [Bool.and_eq_true, decide_eq_true_eq] at hA2
 obtain ⟨⟨hdp, hHD⟩, hTX⟩ := hA2
 have HDP := hide hdp
 have HHD := hide hHD
 have HTX := hide hTX
 clear hHD hTX HA
 by_cases k1 : k = 1
 case pos => as_aux_lemma =>
  subst k1
  by_cases a1 : 0 ≤ n
  case neg => as_aux_lemma =>
   have a1f : decide (n < 0) = true := by simp; omega
   have RR := hide (show (decide (deep + ((TExpr.mk 1 t n li ks).dep : Int) ≤ 41) && (TExpr.mk 1 t n li ks).vld) = false from vldE_no (by rw [show numE 1 n ks.length = false by unfold numE; rw [if_pos rfl, decide_eq_false a1]; rfl]; simp))
   go_wp2_with (fail)
   all_goals
    go_returns
    exact ⟨ret_bl RR.out.symm, bl⟩
  case pos =>
  have a1f : decide (n < 0) = false := by simp; omega
  by_cases a2 : n ≤ 999999999999
  case neg => as_aux_lemma =>
   have a2f : decide (999999999999 < n) = true := by simp; omega
   have RR := hide (show (decide (deep + ((TExpr.mk 1 t n li ks).dep : Int) ≤ 41) && (TExpr.mk 1 t n li ks).vld) = false from vldE_no (by rw [show numE 1 n ks.length = false by unfold numE; rw [if_pos rfl, decide_eq_false a2, Bool.and_false]]; simp))
   go_wp2_with (fail)
   all_goals
    go_returns
    exact ⟨ret_bl RR.out.symm, bl⟩
  case pos =>
  have a2f : decide (999999999999 < n) = false := by simp; omega
  have HNU := hide (show numE 1 n ks.length = true by unfold numE; rw [if_pos rfl, decide_eq_true a1, decide_eq_true a2]; rfl)
  have HALL := hide (show (hdE 1 li ks.length && txtE 1 t && numE 1 n ks.length) = true by rw [HHD.out, HTX.out, HNU.out]; rfl)
  have HWC := hide hbc
  go_wp2_with (fail)
  clear hz0 x0 hl0 hn0
  go_loopw [7] (fun v wr => ∃ m : Nat, v = .int .i64 m ∧ m ≤ ks.length ∧ Hid (∀ j (hj : j < ks.length), j < m → (decide (deep + 1 + (ks[j].dep : Int) ≤ 41) && ks[j].vld) = true) ∧ Bel (w.alloc (.cells #[.int .i64 1, .string t, .int .i64 n, .int .i64 li, .slice A ks.length c] 42)) wr) (fun v _ => ks.length - (intOf v).toNat)
  case atStart => exact ⟨0, rfl, by omega, fun j _ hj => by omega, bl⟩
  case round => as_aux_lemma =>
   obtain ⟨m, rfl, hm, hK, hbx⟩ := hrel
   have hz0 := hbx.size
   simp only [World.size_alloc] at hz0
   have x0 := hbx.box w.heap.size (by simp)
   have hq0 : ¬ w.heap.size = wr.heap.size := by omega
   have hl0 : w.heap.size < wr.heap.size := by omega
   have p4 : wr.cell? ⟨w.heap.size, 4, none⟩ = some (.slice A ks.length c) := (x0 4).trans (by simp)
   by_cases h1 : m < ks.length
   case neg => as_aux_lemma =>
    have hd : decide ((m : Int) < (ks.length : Int)) = false := by simp; omega
    have RR := hide (vldE_yes (deep := deep) (k := 1) (n := n) (li := li) (t := t) HDP.out HALL.out (fun j hj => hK.out j hj (by omega)))
    go_wp2_with (fail)
    all_goals
     go_returns
     exact ⟨ret_bl RR.out.symm, bl⟩
   case pos =>
   have hd : decide ((m : Int) < (ks.length : Int)) = true := by simp; omega
   have hwd : IntKind.i64.wrap (deep + 1) = deep + 1 := by rw [IntKind.wrap_i64]; have := HDP.out; omega
   have hbw : Bel w wr := bl
   (obtain ⟨b1, o1, x1_0, x1_1, x1_2, x1_3, x1_4, A1_4, C1_4, hA1, hS1, hl1, hx1, hv1, g1_0, g1_1, g1_2, g1_3, g1_4, c1_0, c1_1, c1_2, c1_3, c1_4⟩ := TExpr.at HR.out m h1; subst hA1; have HV1 := hide (Dat.HoldVals.bel hbw hv1); have hh1 := hbw.box b1 hl1; have hw1 := Nat.lt_of_lt_of_le hl1 (Bel.size hbw); replace c1_0 := (hh1 _).trans c1_0; replace c1_1 := (hh1 _).trans c1_1; replace c1_2 := (hh1 _).trans c1_2; replace c1_3 := (hh1 _).trans c1_3; replace c1_4 := (hh1 _).trans c1_4; have HX1 := hide hx1; have GR1_4 := hide g1_4; clear hh1 hv1 hx1 hS1 g1_4)
   have hne1 : ¬ b1 = wr.heap.size := by omega
   cases hkv : (decide (deep + 1 + (ks[m].dep : Int) ≤ 41) && ks[m].vld)
   case false => as_aux_lemma =>
    have HKV := hide hkv
    clear hkv
    have RR := hide (vldE_kid (deep := deep) (k := 1) (n := n) (li := li) (t := t) m h1 HKV.out)
    go_wp2_with (go_at_call 53; (with_reducible refine (IH'.out m h1 S _ _ _ (Dat.HoldVals.bel bl HV1.out) (by omega) (by have := HDP.out; omega)).mono ?_); rintro e w3 ⟨rfl, hb3⟩; rw [HKV.out])
    all_goals
     go_returns
     exact ⟨ret_bl RR.out.symm, bl⟩
   case true => as_aux_lemma =>
    have HKV := hide hkv
    clear hkv
    go_wp2_with (go_at_call 53; (with_reducible refine (IH'.out m h1 S _ _ _ (Dat.HoldVals.bel bl HV1.out) (by omega) (by have := HDP.out; omega)).mono ?_); rintro e w3 ⟨rfl, hb3⟩; rw [HKV.out])
    go_roundw
    case rel => exact ⟨m + 1, by go_num, by omega, hide (fun j hj hjm => by
     by_cases e : j = m
     ·
      subst e; exact HKV.out
     ·
      exact hK.out j hj (by omega)), bl⟩
    case measure => simp [intOf]; omega
 case neg =>
 have k1f : (k == 1) = false := by simp; exact k1
 by_cases k20 : k = 20
 case pos => as_aux_lemma =>
  subst k20
  obtain ⟨hm1, hm14⟩ := hd20 HHD.out
  by_cases a1 : 0 ≤ n
  case neg => as_aux_lemma =>
   have a1f : decide (n < 0) = true := by simp; omega
   have RR := hide (show (decide (deep + ((TExpr.mk 20 t n li ks).dep : Int) ≤ 41) && (TExpr.mk 20 t n li ks).vld) = false from vldE_no (by rw [show numE 20 n ks.length = false by unfold numE; simp; omega]; simp))
   go_wp2_with (fail)
   all_goals
    go_returns
    exact ⟨ret_bl RR.out.symm, bl⟩
  case pos =>
  have a1f : decide (n < 0) = false := by simp; omega
  by_cases a2 : n ≤ 1
  case neg => as_aux_lemma =>
   have a2f : decide (1 < n) = true := by simp; omega
   have RR := hide (show (decide (deep + ((TExpr.mk 20 t n li ks).dep : Int) ≤ 41) && (TExpr.mk 20 t n li ks).vld) = false from vldE_no (by rw [show numE 20 n ks.length = false by unfold numE; simp; omega]; simp))
   go_wp2_with (fail)
   all_goals
    go_returns
    exact ⟨ret_bl RR.out.symm, bl⟩
  case pos =>
  have a2f : decide (1 < n) = false := by simp; omega
  have hw1 : IntKind.i64.wrap ((ks.length : Int) - 1 - n) = (ks.length : Int) - 1 - n := by rw [IntKind.wrap_i64]; omega
  have hw2 : IntKind.i64.wrap (1 + n) = 1 + n := by rw [IntKind.wrap_i64]; omega
  by_cases a3 : 1 + n ≤ (ks.length : Int)
  case neg => as_aux_lemma =>
   have hr : Int.tmod ((ks.length : Int) - 1 - n) 2 = -1 := by have e : (ks.length : Int) - 1 - n = -1 := (by omega); rw [e]; rfl
   have hr2 : ((Int.tmod ((ks.length : Int) - 1 - n) 2) != 0) = true := by rw [hr]; rfl
   have RR := hide (show (decide (deep + ((TExpr.mk 20 t n li ks).dep : Int) ≤ 41) && (TExpr.mk 20 t n li ks).vld) = false from vldE_no (by rw [show numE 20 n ks.length = false by unfold numE; simp; omega]; simp))
   go_wp2_with (fail)
   all_goals
    go_returns
    exact ⟨ret_bl RR.out.symm, bl⟩
  case pos =>
  have a3f : decide ((ks.length : Int) < 1 + n) = false := by simp; omega
  have HTM := hide (Int.tmod_eq_emod_of_nonneg (show 0 ≤ (ks.length : Int) - 1 - n by omega) (b := 2))
  by_cases a4 : ((ks.length : Int) - 1 - n) % 2 = 0
  case neg => as_aux_lemma =>
   have hr2 : ((Int.tmod ((ks.length : Int) - 1 - n) 2) != 0) = true := by rw [HTM.out]; simpa using a4
   have RR := hide (show (decide (deep + ((TExpr.mk 20 t n li ks).dep : Int) ≤ 41) && (TExpr.mk 20 t n li ks).vld) = false from vldE_no (by rw [show numE 20 n ks.length = false by unfold numE; rw [if_neg (by simp), if_pos rfl, decide_eq_false a4, Bool.and_false]]; simp))
   go_wp2_with (fail)
   all_goals
    go_returns
    exact ⟨ret_bl RR.out.symm, bl⟩
  case pos =>
  have hr2 : ((Int.tmod ((ks.length : Int) - 1 - n) 2) != 0) = false := by rw [HTM.out]; simpa using a4
  have HNU := hide (show numE 20 n ks.length = true by unfold numE; rw [if_neg (by simp), if_pos rfl, decide_eq_true a3, decide_eq_true a4]; simp; omega)
  have HALL := hide (show (hdE 20 li ks.length && txtE 20 t && numE 20 n ks.length) = true by rw [HHD.out, HTX.out, HNU.out]; rfl)
  have HWC := hide hbc
  go_upto_region 12 with (fail)
  go_cut [7] from 8 (fun v wx => v = .int .i64 0 ∧ Bel (w.alloc (.cells #[.int .i64 20, .string t, .int .i64 n, .int .i64 li, .slice A ks.length c] 42)) wx)
  case first => as_aux_lemma =>
   go_wp2_with (fail)
   all_goals go_meet
   all_goals exact ⟨rfl, bl⟩
  case rest =>
  obtain ⟨rfl, hbc2⟩ := hcut
  clear hz0 x0 hl0 hn0 HWC hbc
  have hbc := hbc2
  clear hbc2
  have hz0 := hbc.size
  simp only [World.size_alloc] at hz0
  have x0 := hbc.box w.heap.size (by simp)
  have hl0 : w.heap.size < wc.heap.size := by omega
  have hn0 : ¬ w.heap.size = wc.heap.size := by omega
  have HWC := hide hbc
  go_wp2_with (fail)
  clear hz0 x0 hl0 hn0
  go_loopw [7] (fun v wr => ∃ m : Nat, v = .int .i64 m ∧ m ≤ ks.length ∧ Hid (∀ j (hj : j < ks.length), j < m → (decide (deep + 1 + (ks[j].dep : Int) ≤ 41) && ks[j].vld) = true) ∧ Bel (w.alloc (.cells #[.int .i64 20, .string t, .int .i64 n, .int .i64 li, .slice A ks.length c] 42)) wr) (fun v _ => ks.length - (intOf v).toNat)
  case atStart => exact ⟨0, rfl, by omega, fun j _ hj => by omega, bl⟩
  case round => as_aux_lemma =>
   obtain ⟨m, rfl, hm, hK, hbx⟩ := hrel
   have hz0 := hbx.size
   simp only [World.size_alloc] at hz0
   have x0 := hbx.box w.heap.size (by simp)
   have hq0 : ¬ w.heap.size = wr.heap.size := by omega
   have hl0 : w.heap.size < wr.heap.size := by omega
   have p4 : wr.cell? ⟨w.heap.size, 4, none⟩ = some (.slice A ks.length c) := (x0 4).trans (by simp)
   by_cases h1 : m < ks.length
   case neg => as_aux_lemma =>
    have hd : decide ((m : Int) < (ks.length : Int)) = false := by simp; omega
    have RR := hide (vldE_yes (deep := deep) (k := 20) (n := n) (li := li) (t := t) HDP.out HALL.out (fun j hj => hK.out j hj (by omega)))
    go_wp2_with (fail)
    all_goals
     go_returns
     exact ⟨ret_bl RR.out.symm, bl⟩
   case pos =>
   have hd : decide ((m : Int) < (ks.length : Int)) = true := by simp; omega
   have hwd : IntKind.i64.wrap (deep + 1) = deep + 1 := by rw [IntKind.wrap_i64]; have := HDP.out; omega
   have hbw : Bel w wr := bl
   (obtain ⟨b1, o1, x1_0, x1_1, x1_2, x1_3, x1_4, A1_4, C1_4, hA1, hS1, hl1, hx1, hv1, g1_0, g1_1, g1_2, g1_3, g1_4, c1_0, c1_1, c1_2, c1_3, c1_4⟩ := TExpr.at HR.out m h1; subst hA1; have HV1 := hide (Dat.HoldVals.bel hbw hv1); have hh1 := hbw.box b1 hl1; have hw1 := Nat.lt_of_lt_of_le hl1 (Bel.size hbw); replace c1_0 := (hh1 _).trans c1_0; replace c1_1 := (hh1 _).trans c1_1; replace c1_2 := (hh1 _).trans c1_2; replace c1_3 := (hh1 _).trans c1_3; replace c1_4 := (hh1 _).trans c1_4; have HX1 := hide hx1; have GR1_4 := hide g1_4; clear hh1 hv1 hx1 hS1 g1_4)
   have hne1 : ¬ b1 = wr.heap.size := by omega
   cases hkv : (decide (deep + 1 + (ks[m].dep : Int) ≤ 41) && ks[m].vld)
   case false => as_aux_lemma =>
    have HKV := hide hkv
    clear hkv
    have RR := hide (vldE_kid (deep := deep) (k := 20) (n := n) (li := li) (t := t) m h1 HKV.out)
    go_wp2_with (go_at_call 53; (with_reducible refine (IH'.out m h1 S _ _ _ (Dat.HoldVals.bel bl HV1.out) (by omega) (by have := HDP.out; omega)).mono ?_); rintro e w3 ⟨rfl, hb3⟩; rw [HKV.out])
    all_goals
     go_returns
     exact ⟨ret_bl RR.out.symm, bl⟩
   case true => as_aux_lemma =>
    have HKV := hide hkv
    clear hkv
    go_wp2_with (go_at_call 53; (with_reducible refine (IH'.out m h1 S _ _ _ (Dat.HoldVals.bel bl HV1.out) (by omega) (by have := HDP.out; omega)).mono ?_); rintro e w3 ⟨rfl, hb3⟩; rw [HKV.out])
    go_roundw
    case rel => exact ⟨m + 1, by go_num, by omega, hide (fun j hj hjm => by
     by_cases e : j = m
     ·
      subst e; exact HKV.out
     ·
      exact hK.out j hj (by omega)), bl⟩
    case measure => simp [intOf]; omega
 case neg =>
 have k20f : (k == 20) = false := by simp; exact k20
 by_cases n0 : n = 0
 case neg => as_aux_lemma =>
  have n0f : (n != 0) = true := by simp; exact n0
  have RR := hide (show (decide (deep + ((TExpr.mk k t n li ks).dep : Int) ≤ 41) && (TExpr.mk k t n li ks).vld) = false from vldE_no (by rw [show numE k n ks.length = false by unfold numE; rw [if_neg k1, if_neg k20, decide_eq_false n0]]; simp))
  go_wp2_with (fail)
  all_goals
   go_returns
   exact ⟨ret_bl RR.out.symm, bl⟩
 case pos =>
 have n0f : (n != 0) = false := by simp; exact n0
 have HNU := hide (show numE k n ks.length = true by unfold numE; rw [if_neg k1, if_neg k20, decide_eq_true n0])
 clear k1 k20 n0
 have HALL := hide (show (hdE k li ks.length && txtE k t && numE k n ks.length) = true by rw [HHD.out, HTX.out, HNU.out]; rfl)
 have HWC := hide hbc
 go_wp2_with (fail)
 clear hz0 x0 hl0 hn0
 go_loopw [7] (fun v wr => ∃ m : Nat, v = .int .i64 m ∧ m ≤ ks.length ∧ Hid (∀ j (hj : j < ks.length), j < m → (decide (deep + 1 + (ks[j].dep : Int) ≤ 41) && ks[j].vld) = true) ∧ Bel (w.alloc (.cells #[.int .i64 k, .string t, .int .i64 n, .int .i64 li, .slice A ks.length c] 42)) wr) (fun v _ => ks.length - (intOf v).toNat)
 case atStart => exact ⟨0, rfl, by omega, fun j _ hj => by omega, bl⟩
 case round => as_aux_lemma =>
  obtain ⟨m, rfl, hm, hK, hbx⟩ := hrel
  have hz0 := hbx.size
  simp only [World.size_alloc] at hz0
  have x0 := hbx.box w.heap.size (by simp)
  have hq0 : ¬ w.heap.size = wr.heap.size := by omega
  have hl0 : w.heap.size < wr.heap.size := by omega
  have p4 : wr.cell? ⟨w.heap.size, 4, none⟩ = some (.slice A ks.length c) := (x0 4).trans (by simp)
  by_cases h1 : m < ks.length
  case neg => as_aux_lemma =>
   have hd : decide ((m : Int) < (ks.length : Int)) = false := by simp; omega
   have RR := hide (vldE_yes (deep := deep) (k := k) (n := n) (li := li) (t := t) HDP.out HALL.out (fun j hj => hK.out j hj (by omega)))
   go_wp2_with (fail)
   all_goals
    go_returns
    exact ⟨ret_bl RR.out.symm, bl⟩
  case pos =>
  have hd : decide ((m : Int) < (ks.length : Int)) = true := by simp; omega
  have hwd : IntKind.i64.wrap (deep + 1) = deep + 1 := by rw [IntKind.wrap_i64]; have := HDP.out; omega
  have hbw : Bel w wr := bl
  (obtain ⟨b1, o1, x1_0, x1_1, x1_2, x1_3, x1_4, A1_4, C1_4, hA1, hS1, hl1, hx1, hv1, g1_0, g1_1, g1_2, g1_3, g1_4, c1_0, c1_1, c1_2, c1_3, c1_4⟩ := TExpr.at HR.out m h1; subst hA1; have HV1 := hide (Dat.HoldVals.bel hbw hv1); have hh1 := hbw.box b1 hl1; have hw1 := Nat.lt_of_lt_of_le hl1 (Bel.size hbw); replace c1_0 := (hh1 _).trans c1_0; replace c1_1 := (hh1 _).trans c1_1; replace c1_2 := (hh1 _).trans c1_2; replace c1_3 := (hh1 _).trans c1_3; replace c1_4 := (hh1 _).trans c1_4; have HX1 := hide hx1; have GR1_4 := hide g1_4; clear hh1 hv1 hx1 hS1 g1_4)
  have hne1 : ¬ b1 = wr.heap.size := by omega
  cases hkv : (decide (deep + 1 + (ks[m].dep : Int) ≤ 41) && ks[m].vld)
  case false => as_aux_lemma =>
   have HKV := hide hkv
   clear hkv
   have RR := hide (vldE_kid (deep := deep) (k := k) (n := n) (li := li) (t := t) m h1 HKV.out)
   go_wp2_with (go_at_call 53; (with_reducible refine (IH'.out m h1 S _ _ _ (Dat.HoldVals.bel bl HV1.out) (by omega) (by have := HDP.out; omega)).mono ?_); rintro e w3 ⟨rfl, hb3⟩; rw [HKV.out])
   all_goals
    go_returns
    exact ⟨ret_bl RR.out.symm, bl⟩
  case true => as_aux_lemma =>
   have HKV := hide hkv
   clear hkv
   go_wp2_with (go_at_call 53; (with_reducible refine (IH'.out m h1 S _ _ _ (Dat.HoldVals.bel bl HV1.out) (by omega) (by have := HDP.out; omega)).mono ?_); rintro e w3 ⟨rfl, hb3⟩; rw [HKV.out])
   go_roundw
   case rel => exact ⟨m + 1, by go_num, by omega, hide (fun j hj hjm => by
    by_cases e : j = m
    ·
     subst e; exact HKV.out
    ·
     exact hK.out j hj (by omega)), bl⟩
   case measure => simp [intOf]; omega
theorem l6Valid_any : ∀ t, SVldE t := TExpr.ind fun k t n li ks IH => l6Valid_mk k n li t ks IH
theorem specIsValidExpr_any (t : TExpr) (S : Nat → Prop) (w : World) (vs : List Value) (hv : Dat.HoldVals w S t.D vs) :
  Calls Tryd.prog 34 #[.agg vs.toArray] w fun e w' => e = .returned (.bool (exprB t)) ∧ Bel w w' := by
 have HV := hide hv
 obtain ⟨k, tt, n, li, ks⟩ := t
 obtain ⟨A, c, rfl, -⟩ := TExpr.vals hv
 clear hv
 by_cases h6 : (TExpr.mk k tt n li ks).cnt ≤ 600
 ·
  have HLI := hide (show leftI 600 (TExpr.mk k tt n li ks).cnt = 600 - ((TExpr.mk k tt n li ks).cnt : Int) by unfold leftI; rw [if_pos (by omega)])
  have hd : decide ((0 : Int) ≤ 600 - ((TExpr.mk k tt n li ks).cnt : Int)) = true := by simp; omega
  have HX := hide (show exprB (TExpr.mk k tt n li ks) = (decide (1 + ((TExpr.mk k tt n li ks).dep : Int) ≤ 41) && (TExpr.mk k tt n li ks).vld) by
   unfold exprB
   rw [decide_eq_true h6, Bool.true_and]
   congr 1
   rw [decide_eq_decide]
   omega)
  obtain ⟨lv, hlv⟩ : ∃ lv, 600 - ((TExpr.mk k tt n li ks).cnt : Int) = lv := ⟨_, rfl⟩
  rw [hlv] at hd
  have HLJ := hide (HLI.out.trans hlv)
  clear hlv h6
  go_enter Tryd.func34, Tryd.ntmps34
  go_wp2_with (first | (go_at_call 52; refine (l6Left_any _ S _ _ 600 (Dat.HoldVals.bel bl HV.out) (by omega) (by omega)).mono ?_; rintro e w1 ⟨rfl, hb1⟩; rw [HLJ.out]; (have hz1 := hb1.sz; obtain ⟨hk1_0, hf1_0, hl1_0, hn1_0⟩ := hb1.lay (w.heap.size))) | (go_at_call 53; refine (l6Valid_any _ S _ _ 1 (Dat.HoldVals.bel bl HV.out) (by omega) (by omega)).mono ?_; rintro e w2 ⟨rfl, hb2⟩; rw [← HX.out]))
  all_goals
   go_returns
   exact ⟨rfl, bl⟩
 ·
  have HLJ := hide (show leftI 600 (TExpr.mk k tt n li ks).cnt = -1 by unfold leftI; rw [if_neg (by omega)])
  have HX := hide (show exprB (TExpr.mk k tt n li ks) = false by unfold exprB; rw [decide_eq_false h6]; rfl)
  clear h6
  go_enter Tryd.func34, Tryd.ntmps34
  go_wp2_with (go_at_call 52; refine (l6Left_any _ S _ _ 600 (Dat.HoldVals.bel bl HV.out) (by omega) (by omega)).mono ?_; rintro e w1 ⟨rfl, hb1⟩; rw [HLJ.out]; (have hz1 := hb1.sz; obtain ⟨hk1_0, hf1_0, hl1_0, hn1_0⟩ := hb1.lay (w.heap.size)))
  all_goals
   go_returns
   exact ⟨by rw [HX.out]; first | done | rfl, bl⟩
end Go.Proofs.YtdacpljinffnaaaDoor
