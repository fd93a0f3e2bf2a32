/- Expressions: the program. -/
import Derived.Test.YtdacpljinffnaaaDoorPY4
import Derived.Test.YtdacpljinffnaaaDoorPY1c
namespace Go.Proofs.YtdacpljinffnaaaDoor
set_option linter.unusedVariables false
set_option linter.unusedSimpArgs false
set_option maxRecDepth 100000
open Go.RowKit
theorem vldF_no {k n li : Int} {t : ByteArray} {ks : List TExpr} (h : (hdE k li ks.length && txtE k t && numE k n ks.length) = false) : (TExpr.mk k t n li ks).vld = false := by rw [vldE_mk, h, Bool.false_and]
theorem vldF_kid {k n li : Int} {t : ByteArray} {ks : List TExpr} (m : Nat) (hm : m < ks.length) (h : ks[m].vld = false) : (TExpr.mk k t n li ks).vld = false := by rw [vldE_mk, TExpr.vlds_at hm h, Bool.and_false]
theorem vldF_yes {k n li : Int} {t : ByteArray} {ks : List TExpr} (h : (hdE k li ks.length && txtE k t && numE k n ks.length) = true) (hk : ∀ m (hm : m < ks.length), ks[m].vld = true) : (TExpr.mk k t n li ks).vld = true := by
 rw [vldE_mk, h, TExpr.vlds_all hk]; rfl
abbrev IVldE (t : TExpr) : Prop := ∀ (S : Nat → Prop) (w : World) (vs : List Value), Sp w → Dat.HoldVals w S t.D vs →
 Calls Tryd.prog 47 #[.agg vs.toArray] w fun e w' => e = .returned (.bool t.vld) ∧ Bel w w'
set_option maxHeartbeats 8000000 in
theorem validNode_mk (k n li : Int) (t : ByteArray) (ks : List TExpr) (IH : ∀ (i : Nat) (hi : i < ks.length), IVldE ks[i]) : IVldE (.mk k t n li ks) := by
 intro S w vs htab hv
 have HT := hide htab
 clear htab
 have IH' := hide IH
 obtain ⟨A, c, rfl, -, hts, hn, hli, hR⟩ := TExpr.vals hv
 have HR := hide hR
 have hlc := HR.out.1
 have hcm := HR.out.2.1
 simp only [List.length_map] at hlc
 unfold maxLen at hcm
 have HTS := hide hts
 unfold maxLen at hts
 clear IH hR hv
 obtain ⟨lo, hi, hL⟩ : ∃ lo hi, lohiE k = (lo, hi) := ⟨_, _, rfl⟩
 have HL := hide hL
 have HH := hide (show hdE k li ks.length = (decide (1 ≤ k) && decide (k ≤ 29) && decide (0 ≤ li) && decide (lo ≤ (ks.length : Int)) && decide ((ks.length : Int) ≤ hi)) by unfold hdE; rw [hL])
 clear hL
 obtain ⟨bA, hbA⟩ : ∃ bA, hdE k li ks.length = bA := ⟨_, rfl⟩
 have HA := hide hbA
 clear hbA
 go_enter Tryd.func47, Tryd.ntmps47
 go_upto_region 2 with (go_at_call 59; refine (exprKids_any _ _).mono ?_; rintro e w1 ⟨rfl, hb1⟩; rw [HL.out]; (have hz1 := hb1.sz; obtain ⟨hk1_0, hf1_0, hl1_0, hn1_0⟩ := hb1.lay (w.heap.size)))
 go_cut [41] from 9 (fun v wx => v = .bool (!bA) ∧ Bel (w.alloc (.cells #[.int .i64 k, .string t, .int .i64 n, .int .i64 li, .slice A ks.length c] 42)) wx)
 case first => as_aux_lemma =>
  by_cases c2 : 1 ≤ k
  case neg => as_aux_lemma =>
   have c2f : decide (k < 1) = true := by simp; omega
   obtain rfl : false = bA := by rw [← HA.out, HH.out, decide_eq_false c2]; simp
   clear c2
   go_wp2_with (fail)
   all_goals go_meet
   all_goals exact ⟨rfl, bl⟩
  case pos =>
  have c2f : decide (k < 1) = false := by simp; omega
  by_cases c3 : k ≤ 29
  case neg => as_aux_lemma =>
   have c3f : decide (29 < k) = true := by simp; omega
   obtain rfl : false = bA := by rw [← HA.out, HH.out, decide_eq_false c3]; simp
   clear c3
   go_wp2_with (fail)
   all_goals go_meet
   all_goals exact ⟨rfl, bl⟩
  case pos =>
  have c3f : decide (29 < k) = false := by simp; omega
  by_cases c5 : lo ≤ (ks.length : Int)
  case neg => as_aux_lemma =>
   have c5f : decide ((ks.length : Int) < lo) = true := by simp; omega
   obtain rfl : false = bA := by rw [← HA.out, HH.out, decide_eq_false c5]; simp
   clear c5
   go_wp2_with (fail)
   all_goals go_meet
   all_goals exact ⟨rfl, bl⟩
  case pos =>
  have c5f : decide ((ks.length : Int) < lo) = false := by simp; omega
  by_cases c6 : (ks.length : Int) ≤ hi
  case neg => as_aux_lemma =>
   have c6f : decide (hi < (ks.length : Int)) = true := by simp; omega
   obtain rfl : false = bA := by rw [← HA.out, HH.out, decide_eq_false c6]; simp
   clear c6
   go_wp2_with (fail)
   all_goals go_meet
   all_goals exact ⟨rfl, bl⟩
  case pos =>
  have c6f : decide (hi < (ks.length : Int)) = false := by simp; omega
  by_cases c4 : 0 ≤ li
  case neg => as_aux_lemma =>
   have c4f : decide (li < 0) = true := by simp; omega
   obtain rfl : false = bA := by rw [← HA.out, HH.out, decide_eq_false c4]; simp
   clear c4
   go_wp2_with (fail)
   all_goals go_meet
   all_goals exact ⟨rfl, bl⟩
  case pos =>
  have c4f : decide (li < 0) = false := by simp; omega
  obtain rfl : true = bA := by rw [← HA.out, HH.out, decide_eq_true c2, decide_eq_true c3, decide_eq_true c4, decide_eq_true c5, decide_eq_true c6]; rfl
  go_wp2_with (fail)
  all_goals go_meet
  all_goals exact ⟨rfl, bl⟩
 case rest =>
 obtain ⟨rfl, hbc⟩ := hcut
 have hz0 := hbc.size
 simp only [World.size_alloc] at hz0
 have x0 := hbc.box w.heap.size (by simp)
 have hl0 : w.heap.size < wc.heap.size := by omega
 have hn0 : ¬ w.heap.size = wc.heap.size := by omega
 cases bA
 case false => as_aux_lemma =>
  have RR := hide (show (TExpr.mk k t n li ks).vld = false from vldF_no (by rw [HA.out]; rfl))
  go_wp2_with (fail)
  all_goals
   go_returns
   exact ⟨ret_bl RR.out.symm, bl⟩
 case true =>
 simp only [Bool.not_true]
 have hk29 : 1 ≤ k ∧ k ≤ 29 := by have := HA.out; rw [HH.out] at this; simp only [Bool.and_eq_true, decide_eq_true_eq] at this; exact this.1.1.1
 obtain ⟨bX, hbX⟩ : ∃ bX, txtE k t = bX := ⟨_, rfl⟩
 have HX := hide hbX
 clear hbX
 obtain ⟨bY, hbY⟩ : ∃ bY, numE k n ks.length = bY := ⟨_, rfl⟩
 have HY := hide hbY
 clear hbY
 obtain ⟨bT, hT⟩ : ∃ bT, t.toList.isEmpty = bT := ⟨_, rfl⟩
 have HBT := hide (show decide (t.size = 0) = bT by rw [← hT, Bool.eq_iff_iff, decide_eq_true_eq]; exact tlE.symm)
 obtain ⟨bN, hN⟩ : ∃ bN, (n == 0) = bN := ⟨_, rfl⟩
 have HBN := hide (show decide (n = 0) = bN by rw [← hN, Bool.eq_iff_iff]; simp)
 go_upto_block 0 with (fail)
 go_cut [5, 6] from 9 (fun v1 v2 wx => v1 = .bool bX ∧ v2 = .bool bY ∧ Bel (w.alloc (.cells #[.int .i64 k, .string t, .int .i64 n, .int .i64 li, .slice A ks.length c] 42)) wx)
 case first => as_aux_lemma =>
  rcases (by omega : k = 1 ∨ k = 2 ∨ k = 3 ∨ k = 4 ∨ k = 5 ∨ k = 6 ∨ k = 7 ∨ k = 8 ∨ k = 9 ∨ k = 10 ∨ k = 11 ∨ k = 12 ∨ k = 13 ∨ k = 14 ∨ k = 15 ∨ k = 16 ∨ k = 17 ∨ k = 18 ∨ k = 19 ∨ k = 20 ∨ k = 21 ∨ k = 22 ∨ k = 23 ∨ k = 24 ∨ k = 25 ∨ k = 26 ∨ k = 27 ∨ k = 28 ∨ k = 29) with rfl | rfl | rfl | rfl | rfl | rfl | rfl | rfl | rfl | rfl | rfl | rfl | rfl | rfl | rfl | rfl | rfl | rfl | rfl | rfl | rfl | rfl | rfl | rfl | rfl | rfl | rfl | rfl | rfl
  ·
   as_aux_lemma =>
   clear hk29
   obtain rfl : bT = bX := by rw [← HX.out, ← HBT.out]; unfold txtE; simp
   by_cases ha : 0 ≤ n
   case pos => as_aux_lemma =>
    have da : decide ((0 : Int) ≤ n) = true := by simpa using ha
    obtain rfl : decide (n ≤ 999999999999) = bY := by rw [← HY.out]; unfold numE; simp [ha]
    go_wp2_with (fail)
    all_goals go_meet
    all_goals exact ⟨by first | rfl | (congr 1; done) | (simp_all; done), by first | rfl | (congr 1; done) | (simp_all; done), bl⟩
   case neg =>
   have da : decide ((0 : Int) ≤ n) = false := by simpa using ha
   obtain rfl : false = bY := by rw [← HY.out]; unfold numE; simp [ha]
   go_wp2_with (fail)
   all_goals go_meet
   all_goals exact ⟨by first | rfl | (congr 1; done) | (simp_all; done), by first | rfl | (congr 1; done) | (simp_all; done), bl⟩
  ·
   as_aux_lemma =>
   clear hk29
   obtain rfl : decide (t.size ≤ 120) = bX := by rw [← HX.out]; unfold txtE; simp
   have hq : decide ((t.size : Int) ≤ 120) = decide (t.size ≤ 120) := by rw [decide_eq_decide]; omega
   obtain rfl : bN = bY := by rw [← HY.out, ← HBN.out]; unfold numE; simp
   go_wp2_with (fail)
   all_goals go_meet
   all_goals exact ⟨by first | rfl | (congr 1; done) | (simp_all; done), by first | rfl | (congr 1; done) | (simp_all; done), bl⟩
  ·
   as_aux_lemma =>
   clear hk29
   obtain rfl : ascB t = bX := by rw [← HX.out]; unfold txtE; simp
   obtain rfl : bN = bY := by rw [← HY.out, ← HBN.out]; unfold numE; simp
   go_wp2_with (go_at_call 60; refine (isCset_any _ _ HTS.out).mono ?_; rintro e w2 ⟨rfl, hb2⟩)
   all_goals go_meet
   all_goals exact ⟨by first | rfl | (congr 1; done) | (simp_all; done), by first | rfl | (congr 1; done) | (simp_all; done), bl⟩
  ·
   as_aux_lemma =>
   clear hk29
   obtain rfl : nameB t = bX := by rw [← HX.out]; unfold txtE; simp
   obtain rfl : bN = bY := by rw [← HY.out, ← HBN.out]; unfold numE; simp
   go_wp2_with (go_at_call 29; refine (implIsName_any _ _ (HT.out.on bl)).mono ?_; rintro e w2 ⟨rfl, hb2⟩)
   all_goals go_meet
   all_goals exact ⟨by first | rfl | (congr 1; done) | (simp_all; done), by first | rfl | (congr 1; done) | (simp_all; done), bl⟩
  ·
   as_aux_lemma =>
   clear hk29
   obtain rfl : Lib.containsS keyL t = bX := by rw [← HX.out]; unfold txtE; simp
   obtain rfl : bN = bY := by rw [← HY.out, ← HBN.out]; unfold numE; simp
   go_wp2_with (go_at_call 61; refine (implIsKeyword_any _ _ (HT.out.on bl)).mono ?_; rintro e w2 ⟨rfl, hb2⟩)
   all_goals go_meet
   all_goals exact ⟨by first | rfl | (congr 1; done) | (simp_all; done), by first | rfl | (congr 1; done) | (simp_all; done), bl⟩
  ·
   as_aux_lemma =>
   clear hk29
   obtain rfl : bT = bX := by rw [← HX.out, ← HBT.out]; unfold txtE; simp
   obtain rfl : bN = bY := by rw [← HY.out, ← HBN.out]; unfold numE; simp
   go_wp2_with (fail)
   all_goals go_meet
   all_goals exact ⟨by first | rfl | (congr 1; done) | (simp_all; done), by first | rfl | (congr 1; done) | (simp_all; done), bl⟩
  ·
   as_aux_lemma =>
   clear hk29
   obtain rfl : Lib.containsS unL t = bX := by rw [← HX.out]; unfold txtE; simp
   obtain rfl : bN = bY := by rw [← HY.out, ← HBN.out]; unfold numE; simp
   go_wp2_with (go_at_call 62; refine (implIsUnary_any _ _ (HT.out.on bl)).mono ?_; rintro e w2 ⟨rfl, hb2⟩)
   all_goals go_meet
   all_goals exact ⟨by first | rfl | (congr 1; done) | (simp_all; done), by first | rfl | (congr 1; done) | (simp_all; done), bl⟩
  ·
   as_aux_lemma =>
   clear hk29
   obtain rfl : binB t = bX := by rw [← HX.out]; unfold txtE; simp
   obtain rfl : bN = bY := by rw [← HY.out, ← HBN.out]; unfold numE; simp
   go_wp2_with (go_at_call 63; refine (implBinaryLevel_any _ _ (HT.out.on bl)).mono ?_; rintro e w2 ⟨r, rfl, hr, hb2⟩)
   all_goals go_meet
   all_goals exact ⟨by first | rfl | (rw [← hr]; done) | (rw [← hr]; rfl) | (simp [← hr]; done), by first | rfl | (simp_all; done), bl⟩
  ·
   as_aux_lemma =>
   clear hk29
   obtain rfl : bT = bX := by rw [← HX.out, ← HBT.out]; unfold txtE; simp
   obtain rfl : bN = bY := by rw [← HY.out, ← HBN.out]; unfold numE; simp
   go_wp2_with (fail)
   all_goals go_meet
   all_goals exact ⟨by first | rfl | (congr 1; done) | (simp_all; done), by first | rfl | (congr 1; done) | (simp_all; done), bl⟩
  ·
   as_aux_lemma =>
   clear hk29
   obtain rfl : bT = bX := by rw [← HX.out, ← HBT.out]; unfold txtE; simp
   obtain rfl : bN = bY := by rw [← HY.out, ← HBN.out]; unfold numE; simp
   go_wp2_with (fail)
   all_goals go_meet
   all_goals exact ⟨by first | rfl | (congr 1; done) | (simp_all; done), by first | rfl | (congr 1; done) | (simp_all; done), bl⟩
  ·
   as_aux_lemma =>
   clear hk29
   obtain rfl : bT = bX := by rw [← HX.out, ← HBT.out]; unfold txtE; simp
   obtain rfl : bN = bY := by rw [← HY.out, ← HBN.out]; unfold numE; simp
   go_wp2_with (fail)
   all_goals go_meet
   all_goals exact ⟨by first | rfl | (congr 1; done) | (simp_all; done), by first | rfl | (congr 1; done) | (simp_all; done), bl⟩
  ·
   as_aux_lemma =>
   clear hk29
   obtain rfl : bT = bX := by rw [← HX.out, ← HBT.out]; unfold txtE; simp
   obtain rfl : bN = bY := by rw [← HY.out, ← HBN.out]; unfold numE; simp
   go_wp2_with (fail)
   all_goals go_meet
   all_goals exact ⟨by first | rfl | (congr 1; done) | (simp_all; done), by first | rfl | (congr 1; done) | (simp_all; done), bl⟩
  ·
   as_aux_lemma =>
   clear hk29
   obtain rfl : nameB t = bX := by rw [← HX.out]; unfold txtE; simp
   obtain rfl : bN = bY := by rw [← HY.out, ← HBN.out]; unfold numE; simp
   go_wp2_with (go_at_call 29; refine (implIsName_any _ _ (HT.out.on bl)).mono ?_; rintro e w2 ⟨rfl, hb2⟩)
   all_goals go_meet
   all_goals exact ⟨by first | rfl | (congr 1; done) | (simp_all; done), by first | rfl | (congr 1; done) | (simp_all; done), bl⟩
  ·
   as_aux_lemma =>
   clear hk29
   obtain rfl : bT = bX := by rw [← HX.out, ← HBT.out]; unfold txtE; simp
   obtain rfl : bN = bY := by rw [← HY.out, ← HBN.out]; unfold numE; simp
   go_wp2_with (fail)
   all_goals go_meet
   all_goals exact ⟨by first | rfl | (congr 1; done) | (simp_all; done), by first | rfl | (congr 1; done) | (simp_all; done), bl⟩
  ·
   as_aux_lemma =>
   clear hk29
   obtain rfl : bT = bX := by rw [← HX.out, ← HBT.out]; unfold txtE; simp
   obtain rfl : bN = bY := by rw [← HY.out, ← HBN.out]; unfold numE; simp
   go_wp2_with (fail)
   all_goals go_meet
   all_goals exact ⟨by first | rfl | (congr 1; done) | (simp_all; done), by first | rfl | (congr 1; done) | (simp_all; done), bl⟩
  ·
   as_aux_lemma =>
   clear hk29
   obtain rfl : bT = bX := by rw [← HX.out, ← HBT.out]; unfold txtE; simp
   obtain rfl : bN = bY := by rw [← HY.out, ← HBN.out]; unfold numE; simp
   go_wp2_with (fail)
   all_goals go_meet
   all_goals exact ⟨by first | rfl | (congr 1; done) | (simp_all; done), by first | rfl | (congr 1; done) | (simp_all; done), bl⟩
  ·
   as_aux_lemma =>
   clear hk29
   obtain rfl : bT = bX := by rw [← HX.out, ← HBT.out]; unfold txtE; simp
   obtain rfl : bN = bY := by rw [← HY.out, ← HBN.out]; unfold numE; simp
   go_wp2_with (fail)
   all_goals go_meet
   all_goals exact ⟨by first | rfl | (congr 1; done) | (simp_all; done), by first | rfl | (congr 1; done) | (simp_all; done), bl⟩
  ·
   as_aux_lemma =>
   clear hk29
   obtain rfl : bT = bX := by rw [← HX.out, ← HBT.out]; unfold txtE; simp
   obtain rfl : bN = bY := by rw [← HY.out, ← HBN.out]; unfold numE; simp
   go_wp2_with (fail)
   all_goals go_meet
   all_goals exact ⟨by first | rfl | (congr 1; done) | (simp_all; done), by first | rfl | (congr 1; done) | (simp_all; done), bl⟩
  ·
   as_aux_lemma =>
   clear hk29
   obtain rfl : bT = bX := by rw [← HX.out, ← HBT.out]; unfold txtE; simp
   obtain rfl : bN = bY := by rw [← HY.out, ← HBN.out]; unfold numE; simp
   go_wp2_with (fail)
   all_goals go_meet
   all_goals exact ⟨by first | rfl | (congr 1; done) | (simp_all; done), by first | rfl | (congr 1; done) | (simp_all; done), bl⟩
  ·
   as_aux_lemma =>
   clear hk29
   obtain rfl : bT = bX := by rw [← HX.out, ← HBT.out]; unfold txtE; simp
   obtain ⟨hm1, hm14⟩ := hd20 HA.out
   by_cases n0 : n = 0
   case pos => as_aux_lemma =>
    subst n0
    by_cases a3 : (1 : Int) ≤ (ks.length : Int)
    case neg => as_aux_lemma =>
     have a3f : decide ((1 : Int) ≤ (ks.length : Int)) = false := by simp; omega
     have a3n : decide (1 ≤ ks.length) = false := by simp; omega
     exfalso
     omega
    case pos =>
    have a3f : decide ((1 : Int) ≤ (ks.length : Int)) = true := by simp; omega
    have a3n : decide (1 ≤ ks.length) = true := by simp; omega
    have hwa : IntKind.i64.wrap ((ks.length : Int) - 1) = (ks.length : Int) - 1 := by rw [IntKind.wrap_i64]; omega
    have HTM := hide (Int.tmod_eq_emod_of_nonneg (show 0 ≤ (ks.length : Int) - 1 by omega) (b := 2))
    obtain ⟨bR, hR2⟩ : ∃ bR, ((((ks.length : Int) - 1) % 2) == 0) = bR := ⟨_, rfl⟩
    obtain rfl : bR = bY := by rw [← HY.out, ← hR2, Bool.eq_iff_iff]; unfold numE; simp; omega
    go_wp2_with (fail)
    all_goals go_meet
    all_goals exact ⟨by first | rfl | (congr 1; done) | (simp_all; done), by first | rfl | (congr 1; done) | (simp_all; done), bl⟩
   case neg =>
   have n0f : (n == 0) = false := by simp; exact n0
   by_cases n1 : n = 1
   case pos => as_aux_lemma =>
    subst n1
    by_cases a3 : (2 : Int) ≤ (ks.length : Int)
    case neg => as_aux_lemma =>
     have a3f : decide ((2 : Int) ≤ (ks.length : Int)) = false := by simp; omega
     have a3n : decide (2 ≤ ks.length) = false := by simp; omega
     obtain rfl : false = bY := by rw [← HY.out]; unfold numE; simp; omega
     go_wp2_with (fail)
     all_goals go_meet
     all_goals exact ⟨by first | rfl | (congr 1; done) | (simp_all; done), by first | rfl | (congr 1; done) | (simp_all; done), bl⟩
    case pos =>
    have a3f : decide ((2 : Int) ≤ (ks.length : Int)) = true := by simp; omega
    have a3n : decide (2 ≤ ks.length) = true := by simp; omega
    have hwa : IntKind.i64.wrap ((ks.length : Int) - 1 - 1) = (ks.length : Int) - 1 - 1 := by rw [IntKind.wrap_i64]; omega
    have HTM := hide (Int.tmod_eq_emod_of_nonneg (show 0 ≤ (ks.length : Int) - 1 - 1 by omega) (b := 2))
    obtain ⟨bR, hR2⟩ : ∃ bR, ((((ks.length : Int) - 1 - 1) % 2) == 0) = bR := ⟨_, rfl⟩
    obtain rfl : bR = bY := by rw [← HY.out, ← hR2, Bool.eq_iff_iff]; unfold numE; simp; omega
    go_wp2_with (fail)
    all_goals go_meet
    all_goals exact ⟨by first | rfl | (congr 1; done) | (simp_all; done), by first | rfl | (congr 1; done) | (simp_all; done), bl⟩
   case neg =>
   have n1f : (n == 1) = false := by simp; exact n1
   obtain rfl : false = bY := by rw [← HY.out]; unfold numE; simp [n0, n1]
   obtain rfl : bN = false := by rw [← hN]; exact n0f
   go_wp2_with (fail)
   all_goals go_meet
   all_goals exact ⟨by first | rfl | (congr 1; done) | (simp_all; done), by first | rfl | (congr 1; done) | (simp_all; done), bl⟩
  ·
   as_aux_lemma =>
   clear hk29
   obtain rfl : bT = bX := by rw [← HX.out, ← HBT.out]; unfold txtE; simp
   obtain rfl : bN = bY := by rw [← HY.out, ← HBN.out]; unfold numE; simp
   go_wp2_with (fail)
   all_goals go_meet
   all_goals exact ⟨by first | rfl | (congr 1; done) | (simp_all; done), by first | rfl | (congr 1; done) | (simp_all; done), bl⟩
  ·
   as_aux_lemma =>
   clear hk29
   obtain rfl : bT = bX := by rw [← HX.out, ← HBT.out]; unfold txtE; simp
   obtain rfl : bN = bY := by rw [← HY.out, ← HBN.out]; unfold numE; simp
   go_wp2_with (fail)
   all_goals go_meet
   all_goals exact ⟨by first | rfl | (congr 1; done) | (simp_all; done), by first | rfl | (congr 1; done) | (simp_all; done), bl⟩
  ·
   as_aux_lemma =>
   clear hk29
   obtain rfl : bT = bX := by rw [← HX.out, ← HBT.out]; unfold txtE; simp
   obtain rfl : bN = bY := by rw [← HY.out, ← HBN.out]; unfold numE; simp
   go_wp2_with (fail)
   all_goals go_meet
   all_goals exact ⟨by first | rfl | (congr 1; done) | (simp_all; done), by first | rfl | (congr 1; done) | (simp_all; done), bl⟩
  ·
   as_aux_lemma =>
   clear hk29
   obtain rfl : bT = bX := by rw [← HX.out, ← HBT.out]; unfold txtE; simp
   obtain rfl : bN = bY := by rw [← HY.out, ← HBN.out]; unfold numE; simp
   go_wp2_with (fail)
   all_goals go_meet
   all_goals exact ⟨by first | rfl | (congr 1; done) | (simp_all; done), by first | rfl | (congr 1; done) | (simp_all; done), bl⟩
  ·
   as_aux_lemma =>
   clear hk29
   obtain rfl : bT = bX := by rw [← HX.out, ← HBT.out]; unfold txtE; simp
   obtain rfl : bN = bY := by rw [← HY.out, ← HBN.out]; unfold numE; simp
   go_wp2_with (fail)
   all_goals go_meet
   all_goals exact ⟨by first | rfl | (congr 1; done) | (simp_all; done), by first | rfl | (congr 1; done) | (simp_all; done), bl⟩
  ·
   as_aux_lemma =>
   clear hk29
   obtain rfl : bT = bX := by rw [← HX.out, ← HBT.out]; unfold txtE; simp
   obtain rfl : bN = bY := by rw [← HY.out, ← HBN.out]; unfold numE; simp
   go_wp2_with (fail)
   all_goals go_meet
   all_goals exact ⟨by first | rfl | (congr 1; done) | (simp_all; done), by first | rfl | (congr 1; done) | (simp_all; done), bl⟩
  ·
   as_aux_lemma =>
   clear hk29
   obtain rfl : bT = bX := by rw [← HX.out, ← HBT.out]; unfold txtE; simp
   obtain rfl : bN = bY := by rw [← HY.out, ← HBN.out]; unfold numE; simp
   go_wp2_with (fail)
   all_goals go_meet
   all_goals exact ⟨by first | rfl | (congr 1; done) | (simp_all; done), by first | rfl | (congr 1; done) | (simp_all; done), bl⟩
  ·
   as_aux_lemma =>
   clear hk29
   obtain rfl : nameB t = bX := by rw [← HX.out]; unfold txtE; simp
   obtain rfl : bN = bY := by rw [← HY.out, ← HBN.out]; unfold numE; simp
   go_wp2_with (go_at_call 29; refine (implIsName_any _ _ (HT.out.on bl)).mono ?_; rintro e w2 ⟨rfl, hb2⟩)
   all_goals go_meet
   all_goals exact ⟨by first | rfl | (congr 1; done) | (simp_all; done), by first | rfl | (congr 1; done) | (simp_all; done), bl⟩
  ·
   as_aux_lemma =>
   clear hk29
   obtain rfl : bT = bX := by rw [← HX.out, ← HBT.out]; unfold txtE; simp
   obtain rfl : bN = bY := by rw [← HY.out, ← HBN.out]; unfold numE; simp
   go_wp2_with (fail)
   all_goals go_meet
   all_goals exact ⟨by first | rfl | (congr 1; done) | (simp_all; done), by first | rfl | (congr 1; done) | (simp_all; done), bl⟩
 case rest =>
 obtain ⟨rfl, rfl, hbd⟩ := hcut
 clear hz0 x0 hl0 hn0
 have hz0 := hbd.size
 simp only [World.size_alloc] at hz0
 have x0 := hbd.box w.heap.size (by simp)
 have hl0 : w.heap.size < wc.heap.size := by omega
 have hn0 : ¬ w.heap.size = wc.heap.size := by omega
 cases bX
 case false => as_aux_lemma =>
  have RR := hide (show (TExpr.mk k t n li ks).vld = false from vldF_no (by rw [HX.out]; simp))
  go_wp2_with (fail)
  all_goals
   go_returns
   exact ⟨ret_bl RR.out.symm, bl⟩
 case true =>
 cases bY
 case false => as_aux_lemma =>
  have RR := hide (show (TExpr.mk k t n li ks).vld = false from vldF_no (by rw [HY.out]; simp))
  go_wp2_with (fail)
  all_goals
   go_returns
   exact ⟨ret_bl RR.out.symm, bl⟩
 case true =>
 have HALL := hide (show (hdE k li ks.length && txtE k t && numE k n ks.length) = true by rw [HA.out, HX.out, HY.out]; rfl)
 go_wp2_with (fail)
 have HWC := hide hbd
 clear hz0 x0 hl0 hn0
 go_loopw [133] (fun v wr => ∃ m : Nat, v = .int .i64 m ∧ m ≤ ks.length ∧ Hid (∀ j (hj : j < ks.length), j < m → ks[j].vld = true) ∧ Bel (w.alloc (.cells #[.int .i64 k, .string t, .int .i64 n, .int .i64 li, .slice A ks.length c] 42)) wr) (fun v _ => ks.length - (intOf v).toNat)
 case atStart => exact ⟨0, rfl, by omega, fun j _ hj => by omega, bl⟩
 case round => as_aux_lemma =>
  obtain ⟨m, rfl, hm, hK, hbx⟩ := hrel
  have hz0 := hbx.size
  simp only [World.size_alloc] at hz0
  have hbw : Bel w wr := bl
  by_cases h1 : m < ks.length
  case neg => as_aux_lemma =>
   have hd : decide ((m : Int) < (ks.length : Int)) = false := by simp; omega
   have RR := hide (vldF_yes (k := k) (n := n) (li := li) (t := t) HALL.out (fun j hj => hK.out j hj (by omega)))
   go_wp2_with (fail)
   all_goals
    go_returns
    exact ⟨ret_bl RR.out.symm, bl⟩
  case pos =>
  have hd : decide ((m : Int) < (ks.length : Int)) = true := by simp; omega
  (obtain ⟨b1, o1, x1_0, x1_1, x1_2, x1_3, x1_4, A1_4, C1_4, hA1, hS1, hl1, hx1, hv1, g1_0, g1_1, g1_2, g1_3, g1_4, c1_0, c1_1, c1_2, c1_3, c1_4⟩ := TExpr.at HR.out m h1; subst hA1; have HV1 := hide (Dat.HoldVals.bel hbw hv1); have hh1 := hbw.box b1 hl1; have hw1 := Nat.lt_of_lt_of_le hl1 (Bel.size hbw); replace c1_0 := (hh1 _).trans c1_0; replace c1_1 := (hh1 _).trans c1_1; replace c1_2 := (hh1 _).trans c1_2; replace c1_3 := (hh1 _).trans c1_3; replace c1_4 := (hh1 _).trans c1_4; have HX1 := hide hx1; have GR1_4 := hide g1_4; clear hh1 hv1 hx1 hS1 g1_4)
  have hne1 : ¬ b1 = wr.heap.size := by omega
  cases hkv : ks[m].vld
  case false => as_aux_lemma =>
   have HKV := hide hkv
   clear hkv
   have RR := hide (vldF_kid (k := k) (n := n) (li := li) (t := t) m h1 HKV.out)
   go_wp2_with (go_at_call 47; (with_reducible refine (IH'.out m h1 S _ _ (HT.out.on bl) (Dat.HoldVals.bel bl HV1.out)).mono ?_); rintro e w3 ⟨rfl, hb3⟩; rw [HKV.out])
   all_goals
    go_returns
    exact ⟨ret_bl RR.out.symm, bl⟩
  case true => as_aux_lemma =>
   have HKV := hide hkv
   clear hkv
   go_wp2_with (go_at_call 47; (with_reducible refine (IH'.out m h1 S _ _ (HT.out.on bl) (Dat.HoldVals.bel bl HV1.out)).mono ?_); rintro e w3 ⟨rfl, hb3⟩; rw [HKV.out])
   go_roundw
   case rel => exact ⟨m + 1, by go_num, by omega, hide (fun j hj hjm => by
    by_cases e : j = m
    ·
     subst e; exact HKV.out
    ·
     exact hK.out j hj (by omega)), bl⟩
   case measure => simp [intOf]; omega
theorem validNode_any : ∀ t, IVldE t := TExpr.ind fun k t n li ks IH => validNode_mk k n li t ks IH
theorem implIsValidExpr_any (t : TExpr) (S : Nat → Prop) (w : World) (vs : List Value) (htab : Sp w) (hv : Dat.HoldVals w S t.D vs) (hc : t.cnt ≤ 2000000) :
  Calls Tryd.prog 30 #[.agg vs.toArray] w fun e w' => e = .returned (.bool (exprB t)) ∧ Bel w w' := by
 have HT := hide htab
 have HV := hide hv
 have HC := hide hc
 have HD := hide (show t.dep ≤ 2000000 by have := t.dep_cnt; omega)
 clear htab
 obtain ⟨k, tt, n, li, ks⟩ := t
 obtain ⟨A, c, rfl, -⟩ := TExpr.vals hv
 clear hv hc
 have hE : exprB (TExpr.mk k tt n li ks) = (decide ((TExpr.mk k tt n li ks).cnt ≤ 600) && decide ((TExpr.mk k tt n li ks).dep ≤ 40) && (TExpr.mk k tt n li ks).vld) := rfl
 obtain ⟨nc, hnc⟩ : ∃ nc, (TExpr.mk k tt n li ks).cnt = nc := ⟨_, rfl⟩
 obtain ⟨nd, hnd⟩ : ∃ nd, (TExpr.mk k tt n li ks).dep = nd := ⟨_, rfl⟩
 rw [hnc, hnd] at hE
 have HNC := hide hnc
 have HND := hide hnd
 clear hnc hnd
 by_cases h6 : nc ≤ 600
 ·
  have d6 : decide ((nc : Int) ≤ 600) = true := by simp; omega
  by_cases h4 : nd ≤ 40
  ·
   have d4 : decide ((nd : Int) ≤ 40) = true := by simp; omega
   have HX := hide (show exprB (TExpr.mk k tt n li ks) = (TExpr.mk k tt n li ks).vld by rw [hE, decide_eq_true h6, decide_eq_true h4]; rfl)
   clear hE
   go_enter Tryd.func30, Tryd.ntmps30
   go_wp2_with (first | (go_at_call 45; refine (implCountNodes_any _ S _ _ (Dat.HoldVals.bel bl HV.out) HC.out).mono ?_; rintro e w1 ⟨rfl, hb1⟩; rw [HNC.out]; (have hz1 := hb1.sz; obtain ⟨hk1_0, hf1_0, hl1_0, hn1_0⟩ := hb1.lay (w.heap.size))) | (go_at_call 46; refine (implDepthOf_any _ S _ _ (Dat.HoldVals.bel bl HV.out) HD.out).mono ?_; rintro e w2 ⟨rfl, hb2⟩; rw [HND.out]; (have hz2 := hb2.sz; obtain ⟨hk2_0, hf2_0, hl2_0, hn2_0⟩ := hb2.lay (w.heap.size))) | (go_at_call 47; refine (validNode_any _ S _ _ (HT.out.on bl) (Dat.HoldVals.bel bl HV.out)).mono ?_; rintro e w3 ⟨rfl, hb3⟩))
   all_goals
    go_returns
    exact ⟨by rw [HX.out]; first | done | rfl, bl⟩
  ·
   have d4 : decide ((nd : Int) ≤ 40) = false := by simp; omega
   have HX := hide (show exprB (TExpr.mk k tt n li ks) = false by rw [hE, decide_eq_false h4]; simp)
   clear hE
   go_enter Tryd.func30, Tryd.ntmps30
   go_wp2_with (first | (go_at_call 45; refine (implCountNodes_any _ S _ _ (Dat.HoldVals.bel bl HV.out) HC.out).mono ?_; rintro e w1 ⟨rfl, hb1⟩; rw [HNC.out]; (have hz1 := hb1.sz; obtain ⟨hk1_0, hf1_0, hl1_0, hn1_0⟩ := hb1.lay (w.heap.size))) | (go_at_call 46; refine (implDepthOf_any _ S _ _ (Dat.HoldVals.bel bl HV.out) HD.out).mono ?_; rintro e w2 ⟨rfl, hb2⟩; rw [HND.out]; (have hz2 := hb2.sz; obtain ⟨hk2_0, hf2_0, hl2_0, hn2_0⟩ := hb2.lay (w.heap.size))))
   all_goals
    go_returns
    exact ⟨by rw [HX.out]; first | done | rfl, bl⟩
 ·
  have d6 : decide ((nc : Int) ≤ 600) = false := by simp; omega
  have HX := hide (show exprB (TExpr.mk k tt n li ks) = false by rw [hE, decide_eq_false h6]; simp)
  clear hE
  go_enter Tryd.func30, Tryd.ntmps30
  go_wp2_with (first | (go_at_call 45; refine (implCountNodes_any _ S _ _ (Dat.HoldVals.bel bl HV.out) HC.out).mono ?_; rintro e w1 ⟨rfl, hb1⟩; rw [HNC.out]; (have hz1 := hb1.sz; obtain ⟨hk1_0, hf1_0, hl1_0, hn1_0⟩ := hb1.lay (w.heap.size))))
  all_goals
   go_returns
   exact ⟨by rw [HX.out]; first | done | rfl, bl⟩
end Go.Proofs.YtdacpljinffnaaaDoor
