/- Valid cores: the program, one node. -/
import Derived.Test.YtgofbnmablgedaaGreatDoorPV4
namespace Go.Proofs.YtgofbnmablgedaaGreatDoor
set_option linter.unusedVariables false
set_option linter.unusedSimpArgs false
set_option maxRecDepth 100000
open Go.RowKit
set_option maxHeartbeats 8000000 in
theorem validCore_mk (k op n li : Int) (t : ByteArray) (ks : List TCore) (IH : ∀ (i : Nat) (hi : i < ks.length), IVld ks[i]) : IVld (.mk k op n li t ks) := by
 intro S w vs sl gl ro re loop made htab hv
 have IH' := hide IH
 have HT := hide htab
 obtain ⟨A, c, rfl, -, hop, hn, hli, hts, hR⟩ := TCore.vals hv
 have HR := hide hR
 have hlc := HR.out.1
 have hcm := HR.out.2.1
 simp only [List.length_map] at hlc
 unfold maxLen at hcm
 have HTS := hide hts
 unfold maxLen at hts
 clear IH hR hv htab
 have hmf : ∀ (fn : Fn) (first cap : Array Value) (w : World), (Instr.makeFunc fn first cap).run Tryz.prog w = .ok (.func fn first cap) w := fun _ _ _ _ => rfl
 obtain ⟨lo, hi, hL⟩ : ∃ lo hi, lohi k op = (lo, hi) := ⟨_, _, rfl⟩
 have HL := hide hL
 have HH := hide (show hdOk k op li ks.length = (decide (1 ≤ k) && decide (k ≤ 28) && decide (0 ≤ li) && decide (lo ≤ (ks.length : Int)) && decide ((ks.length : Int) ≤ hi)) by unfold hdOk; rw [hL])
 clear hL
 obtain ⟨bA, hbA⟩ : ∃ bA, (hdOk k op li ks.length && opOk k op) = bA := ⟨_, rfl⟩
 have HA := hide hbA
 clear hbA
 go_enter Tryz.func57, Tryz.ntmps57
 go_upto_region 2 with (go_at_call 81; refine (coreKids_any _ _ _ _ _ _ _ _ _ (HT.out.on bl)).mono ?_; rintro e w1 ⟨rfl, hb1⟩; rw [HL.out]; (have hz1 := hb1.sz; obtain ⟨hk1_0, hf1_0, hl1_0, hn1_0⟩ := hb1.lay (w.heap.size); obtain ⟨hk1_1, hf1_1, hl1_1, hn1_1⟩ := hb1.lay (w.heap.size + 1)))
 go_cut [58] from 17 (fun v wx => v = .bool (!bA) ∧ Bel ((w.alloc (.cells #[.int .i64 sl, .int .i64 gl, .int .i64 ro, .int .i64 re] 95)).alloc (.cells #[.int .i64 k, .int .i64 op, .int .i64 n, .int .i64 li, .string t, .slice A ks.length c] 53)) wx)
 case first => as_aux_lemma =>
  by_cases c2 : 1 ≤ k
  case neg => as_aux_lemma =>
   have c2f : decide (k < 1) = true := by simp; omega
   obtain rfl : false = bA := by rw [← HA.out, HH.out, decide_eq_false c2]; simp
   clear c2
   go_wp2_with (fail)
   all_goals go_meet
   all_goals exact ⟨rfl, bl⟩
  case pos =>
  have c2f : decide (k < 1) = false := by simp; omega
  by_cases c3 : k ≤ 28
  case neg => as_aux_lemma =>
   have c3f : decide (28 < k) = true := by simp; omega
   obtain rfl : false = bA := by rw [← HA.out, HH.out, decide_eq_false c3]; simp
   clear c3
   go_wp2_with (fail)
   all_goals go_meet
   all_goals exact ⟨rfl, bl⟩
  case pos =>
  have c3f : decide (28 < k) = false := by simp; omega
  by_cases c4 : 0 ≤ li
  case neg => as_aux_lemma =>
   have c4f : decide (li < 0) = true := by simp; omega
   obtain rfl : false = bA := by rw [← HA.out, HH.out, decide_eq_false c4]; simp
   clear c4
   go_wp2_with (fail)
   all_goals go_meet
   all_goals exact ⟨rfl, bl⟩
  case pos =>
  have c4f : decide (li < 0) = false := by simp; omega
  by_cases c5 : lo ≤ (ks.length : Int)
  case neg => as_aux_lemma =>
   have c5f : decide ((ks.length : Int) < lo) = true := by simp; omega
   obtain rfl : false = bA := by rw [← HA.out, HH.out, decide_eq_false c5]; simp
   clear c5
   go_wp2_with (fail)
   all_goals go_meet
   all_goals exact ⟨rfl, bl⟩
  case pos =>
  have c5f : decide ((ks.length : Int) < lo) = false := by simp; omega
  by_cases c6 : (ks.length : Int) ≤ hi
  case neg => as_aux_lemma =>
   have c6f : decide (hi < (ks.length : Int)) = true := by simp; omega
   obtain rfl : false = bA := by rw [← HA.out, HH.out, decide_eq_false c6]; simp
   clear c6
   go_wp2_with (fail)
   all_goals go_meet
   all_goals exact ⟨rfl, bl⟩
  case pos =>
  have c6f : decide (hi < (ks.length : Int)) = false := by simp; omega
  have HHT := hide (show hdOk k op li ks.length = true by rw [HH.out, decide_eq_true c2, decide_eq_true c3, decide_eq_true c4, decide_eq_true c5, decide_eq_true c6]; rfl)
  clear c2 c3 c4 c5 c6
  by_cases k11 : k = 11
  case pos => as_aux_lemma =>
   subst k11
   obtain rfl : true = bA := by rw [← HA.out, HHT.out]; rfl
   go_wp2_with (fail)
   all_goals go_meet
   all_goals exact ⟨rfl, bl⟩
  case neg =>
  have n11 : (k != 11) = true := by simp; exact k11
  by_cases h0 : op = 0
  case pos => as_aux_lemma =>
   have f0 : (op != 0) = false := by simp; exact h0
   obtain rfl : true = bA := by rw [← HA.out, HHT.out]; unfold opOk; rw [decide_eq_true h0]; simp
   clear h0 k11
   go_wp2_with (fail)
   all_goals go_meet
   all_goals exact ⟨rfl, bl⟩
  case neg =>
  have f0 : (op != 0) = true := by simp; exact h0
  obtain rfl : false = bA := by rw [← HA.out]; unfold opOk; rw [decide_eq_false h0, decide_eq_false k11]; simp
  clear h0 k11
  go_wp2_with (fail)
  all_goals go_meet
  all_goals exact ⟨rfl, bl⟩
 case rest =>
 obtain ⟨rfl, hbc⟩ := hcut
 have hz0 := hbc.size
 simp only [World.size_alloc] at hz0
 have x0 := hbc.box w.heap.size (by simp; omega)
 have x1 := hbc.box (w.heap.size + 1) (by simp)
 have hl0 : w.heap.size < wc.heap.size := by omega
 have hl1 : w.heap.size + 1 < wc.heap.size := by omega
 have hn0 : ¬ w.heap.size = wc.heap.size := by omega
 have hn1 : ¬ w.heap.size + 1 = wc.heap.size := by omega
 cases bA
 case false => as_aux_lemma =>
  have RR := hide (show (TCore.mk k op n li t ks).vld sl gl ro re loop made = false by
   refine vldB_no ?_
   have := HA.out
   rw [Bool.and_eq_false_iff] at this
   rcases this with h | h
   ·
    rw [h]; simp
   ·
    rw [h]; simp)
  go_wp2_with (fail)
  all_goals
   go_returns
   exact ⟨ret_bl RR.out.symm, bl⟩
 case true =>
 have hA2 := HA.out
 simp only [Bool.and_eq_true] at hA2
 have HHD := hide hA2.1
 have HOP := hide hA2.2
 have hk28 : 1 ≤ k ∧ k ≤ 28 := by have := hA2.1; rw [HH.out] at this; simp only [Bool.and_eq_true, decide_eq_true_eq] at this; exact this.1.1.1
 clear hA2 HA
 obtain ⟨bX, hbX⟩ : ∃ bX, txtOk k t = bX := ⟨_, rfl⟩
 have HX := hide hbX
 clear hbX
 obtain ⟨bY, hbY⟩ : ∃ bY, (numOk sl gl ro re k n && ctxOk k loop made) = bY := ⟨_, rfl⟩
 have HY := hide hbY
 clear hbY
 obtain ⟨bT, hT⟩ : ∃ bT, t.toList.isEmpty = bT := ⟨_, rfl⟩
 have HBT := hide (show decide (t.size = 0) = bT by rw [← hT, Bool.eq_iff_iff, decide_eq_true_eq]; exact tlE.symm)
 obtain ⟨bN, hN⟩ : ∃ bN, (n == 0) = bN := ⟨_, rfl⟩
 have HBN := hide (show decide (n = 0) = bN by rw [← hN, Bool.eq_iff_iff]; simp)
 go_upto_block 0 with (fail)
 go_cut [11, 12] from 17 (fun v1 v2 wx => v1 = .bool bX ∧ v2 = .bool bY ∧ Bel ((w.alloc (.cells #[.int .i64 sl, .int .i64 gl, .int .i64 ro, .int .i64 re] 95)).alloc (.cells #[.int .i64 k, .int .i64 op, .int .i64 n, .int .i64 li, .string t, .slice A ks.length c] 53)) wx)
 case first => as_aux_lemma =>
  rcases (by omega : k = 1 ∨ k = 2 ∨ k = 3 ∨ k = 4 ∨ k = 5 ∨ k = 6 ∨ k = 7 ∨ k = 8 ∨ k = 9 ∨ k = 10 ∨ k = 11 ∨ k = 12 ∨ k = 13 ∨ k = 14 ∨ k = 15 ∨ k = 16 ∨ k = 17 ∨ k = 18 ∨ k = 19 ∨ k = 20 ∨ k = 21 ∨ k = 22 ∨ k = 23 ∨ k = 24 ∨ k = 25 ∨ k = 26 ∨ k = 27 ∨ k = 28) with rfl | rfl | rfl | rfl | rfl | rfl | rfl | rfl | rfl | rfl | rfl | rfl | rfl | rfl | rfl | rfl | rfl | rfl | rfl | rfl | rfl | rfl | rfl | rfl | rfl | rfl | rfl | rfl
  ·
   as_aux_lemma =>
   clear hk28
   obtain rfl : bT = bX := by rw [← HX.out, ← HBT.out]; unfold txtOk; simp
   by_cases ha : -999999999999 ≤ n
   case pos => as_aux_lemma =>
    have da : decide ((-999999999999 : Int) ≤ n) = true := by simpa using ha
    obtain rfl : decide (n ≤ 999999999999) = bY := by rw [← HY.out]; unfold numOk ctxOk; simp [ha]
    go_wp2_with (fail)
    all_goals go_meet
    all_goals exact ⟨by first | rfl | (congr 1; done) | (simp_all; done), by first | rfl | (congr 1; done) | (simp_all; done), bl⟩
   case neg =>
   have da : decide ((-999999999999 : Int) ≤ n) = false := by simpa using ha
   obtain rfl : false = bY := by rw [← HY.out]; unfold numOk ctxOk; simp [ha]
   go_wp2_with (fail)
   all_goals go_meet
   all_goals exact ⟨by first | rfl | (congr 1; done) | (simp_all; done), by first | rfl | (congr 1; done) | (simp_all; done), bl⟩
  ·
   as_aux_lemma =>
   clear hk28
   obtain rfl : decide (t.size ≤ 120) = bX := by rw [← HX.out]; unfold txtOk; rw [if_pos rfl]
   have hq : decide ((t.size : Int) ≤ 120) = decide (t.size ≤ 120) := by rw [decide_eq_decide]; omega
   obtain rfl : bN = bY := by rw [← HY.out, ← HBN.out]; unfold numOk ctxOk; simp
   go_wp2_with (fail)
   all_goals go_meet
   all_goals exact ⟨by first | rfl | (congr 1; done) | (simp_all; done), by first | rfl | (congr 1; done) | (simp_all; done), bl⟩
  ·
   as_aux_lemma =>
   clear hk28
   obtain rfl : ascB t = bX := by rw [← HX.out]; unfold txtOk; simp
   obtain rfl : bN = bY := by rw [← HY.out, ← HBN.out]; unfold numOk ctxOk; simp
   go_wp2_with (go_at_call 83; refine (isCset_any _ _ HTS.out).mono ?_; rintro e w2 ⟨rfl, hb2⟩)
   all_goals go_meet
   all_goals exact ⟨by first | rfl | (congr 1; done) | (simp_all; done), by first | rfl | (congr 1; done) | (simp_all; done), bl⟩
  ·
   as_aux_lemma =>
   clear hk28
   obtain rfl : bT = bX := by rw [← HX.out, ← HBT.out]; unfold txtOk; simp
   obtain rfl : bN = bY := by rw [← HY.out, ← HBN.out]; unfold numOk ctxOk; simp
   go_wp2_with (fail)
   all_goals go_meet
   all_goals exact ⟨by first | rfl | (congr 1; done) | (simp_all; done), by first | rfl | (congr 1; done) | (simp_all; done), bl⟩
  ·
   as_aux_lemma =>
   clear hk28
   obtain rfl : bT = bX := by rw [← HX.out, ← HBT.out]; unfold txtOk; simp
   obtain rfl : (decide (0 ≤ n) && decide (n < sl)) = bY := by rw [← HY.out, ← num_lt]; unfold numOk ctxOk; simp
   go_wp2_with (go_at_call 82; refine (within_any _ n _ _ ((x1 2).trans (by simp))).mono ?_; rintro e w2 ⟨rfl, hb2⟩)
   all_goals go_meet
   all_goals exact ⟨by first | rfl | (congr 1; done) | (simp_all; done), by first | rfl | (congr 1; done) | (simp_all; done), bl⟩
  ·
   as_aux_lemma =>
   clear hk28
   obtain rfl : bT = bX := by rw [← HX.out, ← HBT.out]; unfold txtOk; simp
   obtain rfl : (decide (0 ≤ n) && decide (n < gl)) = bY := by rw [← HY.out, ← num_lt]; unfold numOk ctxOk; simp
   go_wp2_with (go_at_call 82; refine (within_any _ n _ _ ((x1 2).trans (by simp))).mono ?_; rintro e w2 ⟨rfl, hb2⟩)
   all_goals go_meet
   all_goals exact ⟨by first | rfl | (congr 1; done) | (simp_all; done), by first | rfl | (congr 1; done) | (simp_all; done), bl⟩
  ·
   as_aux_lemma =>
   clear hk28
   obtain rfl : bT = bX := by rw [← HX.out, ← HBT.out]; unfold txtOk; simp
   obtain rfl : (decide (0 ≤ n) && decide (n < ro)) = bY := by rw [← HY.out, ← num_lt]; unfold numOk ctxOk; simp
   go_wp2_with (go_at_call 82; refine (within_any _ n _ _ ((x1 2).trans (by simp))).mono ?_; rintro e w2 ⟨rfl, hb2⟩)
   all_goals go_meet
   all_goals exact ⟨by first | rfl | (congr 1; done) | (simp_all; done), by first | rfl | (congr 1; done) | (simp_all; done), bl⟩
  ·
   as_aux_lemma =>
   clear hk28
   obtain rfl : bT = bX := by rw [← HX.out, ← HBT.out]; unfold txtOk; simp
   obtain rfl : (decide (0 ≤ n) && decide (n < 55)) = bY := by rw [← HY.out]; unfold numOk ctxOk; simp; (try rw [show decide (n ≤ 54) = decide (n < 55) by rw [decide_eq_decide]; omega])
   go_wp2_with (go_at_call 82; refine (within_any _ n _ _ ((x1 2).trans (by simp))).mono ?_; rintro e w2 ⟨rfl, hb2⟩)
   all_goals go_meet
   all_goals exact ⟨by first | rfl | (congr 1; done) | (simp_all; done), by first | rfl | (congr 1; done) | (simp_all; done), bl⟩
  ·
   as_aux_lemma =>
   clear hk28
   obtain rfl : bT = bX := by rw [← HX.out, ← HBT.out]; unfold txtOk; simp
   obtain rfl : (decide (0 ≤ n) && decide (n < re)) = bY := by rw [← HY.out, ← num_lt]; unfold numOk ctxOk; simp
   go_wp2_with (go_at_call 82; refine (within_any _ n _ _ ((x1 2).trans (by simp))).mono ?_; rintro e w2 ⟨rfl, hb2⟩)
   all_goals go_meet
   all_goals exact ⟨by first | rfl | (congr 1; done) | (simp_all; done), by first | rfl | (congr 1; done) | (simp_all; done), bl⟩
  ·
   as_aux_lemma =>
   clear hk28
   obtain rfl : bT = bX := by rw [← HX.out, ← HBT.out]; unfold txtOk; simp
   by_cases ha : n = 1
   case pos => as_aux_lemma =>
    have da : (n == 1) = true := by simp; exact ha
    obtain rfl : true = bY := by rw [← HY.out]; unfold numOk ctxOk; simp [ha]
    clear ha
    go_wp2_with (fail)
    all_goals go_meet
    all_goals exact ⟨by first | rfl | (congr 1; done) | (simp_all; done), by first | rfl | (congr 1; done) | (simp_all; done), bl⟩
   case neg =>
   have da : (n == 1) = false := by simp; exact ha
   obtain rfl : (n == 2) = bY := by rw [← HY.out, Bool.eq_iff_iff]; unfold numOk ctxOk; simp; omega
   clear ha
   go_wp2_with (fail)
   all_goals go_meet
   all_goals exact ⟨by first | rfl | (congr 1; done) | (simp_all; done), by first | rfl | (congr 1; done) | (simp_all; done), bl⟩
  ·
   as_aux_lemma =>
   clear hk28
   obtain rfl : bT = bX := by rw [← HX.out, ← HBT.out]; unfold txtOk; simp
   obtain rfl : bN = bY := by rw [← HY.out, ← HBN.out]; unfold numOk ctxOk; simp
   go_wp2_with (fail)
   all_goals go_meet
   all_goals exact ⟨by first | rfl | (congr 1; done) | (simp_all; done), by first | rfl | (congr 1; done) | (simp_all; done), bl⟩
  ·
   as_aux_lemma =>
   clear hk28
   obtain rfl : bT = bX := by rw [← HX.out, ← HBT.out]; unfold txtOk; simp
   obtain rfl : bN = bY := by rw [← HY.out, ← HBN.out]; unfold numOk ctxOk; simp
   go_wp2_with (fail)
   all_goals go_meet
   all_goals exact ⟨by first | rfl | (congr 1; done) | (simp_all; done), by first | rfl | (congr 1; done) | (simp_all; done), bl⟩
  ·
   as_aux_lemma =>
   clear hk28
   obtain rfl : bT = bX := by rw [← HX.out, ← HBT.out]; unfold txtOk; simp
   obtain rfl : bN = bY := by rw [← HY.out, ← HBN.out]; unfold numOk ctxOk; simp
   go_wp2_with (fail)
   all_goals go_meet
   all_goals exact ⟨by first | rfl | (congr 1; done) | (simp_all; done), by first | rfl | (congr 1; done) | (simp_all; done), bl⟩
  ·
   as_aux_lemma =>
   clear hk28
   obtain rfl : bT = bX := by rw [← HX.out, ← HBT.out]; unfold txtOk; simp
   obtain rfl : bN = bY := by rw [← HY.out, ← HBN.out]; unfold numOk ctxOk; simp
   go_wp2_with (fail)
   all_goals go_meet
   all_goals exact ⟨by first | rfl | (congr 1; done) | (simp_all; done), by first | rfl | (congr 1; done) | (simp_all; done), bl⟩
  ·
   as_aux_lemma =>
   clear hk28
   obtain rfl : bT = bX := by rw [← HX.out, ← HBT.out]; unfold txtOk; simp
   obtain rfl : bN = bY := by rw [← HY.out, ← HBN.out]; unfold numOk ctxOk; simp
   go_wp2_with (fail)
   all_goals go_meet
   all_goals exact ⟨by first | rfl | (congr 1; done) | (simp_all; done), by first | rfl | (congr 1; done) | (simp_all; done), bl⟩
  ·
   as_aux_lemma =>
   clear hk28
   obtain rfl : bT = bX := by rw [← HX.out, ← HBT.out]; unfold txtOk; simp
   obtain rfl : bN = bY := by rw [← HY.out, ← HBN.out]; unfold numOk ctxOk; simp
   go_wp2_with (fail)
   all_goals go_meet
   all_goals exact ⟨by first | rfl | (congr 1; done) | (simp_all; done), by first | rfl | (congr 1; done) | (simp_all; done), bl⟩
  ·
   as_aux_lemma =>
   clear hk28
   obtain rfl : bT = bX := by rw [← HX.out, ← HBT.out]; unfold txtOk; simp
   obtain rfl : bN = bY := by rw [← HY.out, ← HBN.out]; unfold numOk ctxOk; simp
   go_wp2_with (fail)
   all_goals go_meet
   all_goals exact ⟨by first | rfl | (congr 1; done) | (simp_all; done), by first | rfl | (congr 1; done) | (simp_all; done), bl⟩
  ·
   as_aux_lemma =>
   clear hk28
   obtain rfl : bT = bX := by rw [← HX.out, ← HBT.out]; unfold txtOk; simp
   obtain rfl : bN = bY := by rw [← HY.out, ← HBN.out]; unfold numOk ctxOk; simp
   go_wp2_with (fail)
   all_goals go_meet
   all_goals exact ⟨by first | rfl | (congr 1; done) | (simp_all; done), by first | rfl | (congr 1; done) | (simp_all; done), bl⟩
  ·
   as_aux_lemma =>
   clear hk28
   obtain rfl : bT = bX := by rw [← HX.out, ← HBT.out]; unfold txtOk; simp
   obtain rfl : bN = bY := by rw [← HY.out, ← HBN.out]; unfold numOk ctxOk; simp
   go_wp2_with (fail)
   all_goals go_meet
   all_goals exact ⟨by first | rfl | (congr 1; done) | (simp_all; done), by first | rfl | (congr 1; done) | (simp_all; done), bl⟩
  ·
   as_aux_lemma =>
   clear hk28
   obtain rfl : bT = bX := by rw [← HX.out, ← HBT.out]; unfold txtOk; simp
   cases bN
   case false => as_aux_lemma =>
    obtain rfl : false = bY := by rw [← HY.out]; unfold numOk ctxOk; simp [HBN.out]
    go_wp2_with (fail)
    all_goals go_meet
    all_goals exact ⟨by first | rfl | (congr 1; done) | (simp_all; done), by first | rfl | (congr 1; done) | (simp_all; done), bl⟩
   case true =>
   obtain rfl : loop = bY := by rw [← HY.out]; unfold numOk ctxOk; simp [HBN.out]
   go_wp2_with (fail)
   all_goals go_meet
   all_goals exact ⟨by first | rfl | (congr 1; done) | (simp_all; done), by first | rfl | (congr 1; done) | (simp_all; done), bl⟩
  ·
   as_aux_lemma =>
   clear hk28
   obtain rfl : bT = bX := by rw [← HX.out, ← HBT.out]; unfold txtOk; simp
   cases bN
   case false => as_aux_lemma =>
    obtain rfl : false = bY := by rw [← HY.out]; unfold numOk ctxOk; simp [HBN.out]
    go_wp2_with (fail)
    all_goals go_meet
    all_goals exact ⟨by first | rfl | (congr 1; done) | (simp_all; done), by first | rfl | (congr 1; done) | (simp_all; done), bl⟩
   case true =>
   obtain rfl : loop = bY := by rw [← HY.out]; unfold numOk ctxOk; simp [HBN.out]
   go_wp2_with (fail)
   all_goals go_meet
   all_goals exact ⟨by first | rfl | (congr 1; done) | (simp_all; done), by first | rfl | (congr 1; done) | (simp_all; done), bl⟩
  ·
   as_aux_lemma =>
   clear hk28
   obtain rfl : bT = bX := by rw [← HX.out, ← HBT.out]; unfold txtOk; simp
   obtain rfl : bN = bY := by rw [← HY.out, ← HBN.out]; unfold numOk ctxOk; simp
   go_wp2_with (fail)
   all_goals go_meet
   all_goals exact ⟨by first | rfl | (congr 1; done) | (simp_all; done), by first | rfl | (congr 1; done) | (simp_all; done), bl⟩
  ·
   as_aux_lemma =>
   clear hk28
   obtain rfl : bT = bX := by rw [← HX.out, ← HBT.out]; unfold txtOk; simp
   cases bN
   case false => as_aux_lemma =>
    obtain rfl : false = bY := by rw [← HY.out]; unfold numOk ctxOk; simp [HBN.out]
    go_wp2_with (fail)
    all_goals go_meet
    all_goals exact ⟨by first | rfl | (congr 1; done) | (simp_all; done), by first | rfl | (congr 1; done) | (simp_all; done), bl⟩
   case true =>
   obtain rfl : (!made) = bY := by rw [← HY.out]; unfold numOk ctxOk; simp [HBN.out]
   go_wp2_with (fail)
   all_goals go_meet
   all_goals exact ⟨by first | rfl | (congr 1; done) | (simp_all; done), by first | rfl | (congr 1; done) | (simp_all; done), bl⟩
  ·
   as_aux_lemma =>
   clear hk28
   obtain rfl : bT = bX := by rw [← HX.out, ← HBT.out]; unfold txtOk; simp
   cases bN
   case false => as_aux_lemma =>
    obtain rfl : false = bY := by rw [← HY.out]; unfold numOk ctxOk; simp [HBN.out]
    go_wp2_with (fail)
    all_goals go_meet
    all_goals exact ⟨by first | rfl | (congr 1; done) | (simp_all; done), by first | rfl | (congr 1; done) | (simp_all; done), bl⟩
   case true =>
   obtain rfl : (!made) = bY := by rw [← HY.out]; unfold numOk ctxOk; simp [HBN.out]
   go_wp2_with (fail)
   all_goals go_meet
   all_goals exact ⟨by first | rfl | (congr 1; done) | (simp_all; done), by first | rfl | (congr 1; done) | (simp_all; done), bl⟩
  ·
   as_aux_lemma =>
   clear hk28
   obtain rfl : bT = bX := by rw [← HX.out, ← HBT.out]; unfold txtOk; simp
   cases bN
   case false => as_aux_lemma =>
    obtain rfl : false = bY := by rw [← HY.out]; unfold numOk ctxOk; simp [HBN.out]
    go_wp2_with (fail)
    all_goals go_meet
    all_goals exact ⟨by first | rfl | (congr 1; done) | (simp_all; done), by first | rfl | (congr 1; done) | (simp_all; done), bl⟩
   case true =>
   obtain rfl : (!made) = bY := by rw [← HY.out]; unfold numOk ctxOk; simp [HBN.out]
   go_wp2_with (fail)
   all_goals go_meet
   all_goals exact ⟨by first | rfl | (congr 1; done) | (simp_all; done), by first | rfl | (congr 1; done) | (simp_all; done), bl⟩
  ·
   as_aux_lemma =>
   clear hk28
   obtain rfl : bT = bX := by rw [← HX.out, ← HBT.out]; unfold txtOk; simp
   obtain rfl : bN = bY := by rw [← HY.out, ← HBN.out]; unfold numOk ctxOk; simp
   go_wp2_with (fail)
   all_goals go_meet
   all_goals exact ⟨by first | rfl | (congr 1; done) | (simp_all; done), by first | rfl | (congr 1; done) | (simp_all; done), bl⟩
  ·
   as_aux_lemma =>
   clear hk28
   obtain rfl : bT = bX := by rw [← HX.out, ← HBT.out]; unfold txtOk; simp
   obtain rfl : bN = bY := by rw [← HY.out, ← HBN.out]; unfold numOk ctxOk; simp
   go_wp2_with (fail)
   all_goals go_meet
   all_goals exact ⟨by first | rfl | (congr 1; done) | (simp_all; done), by first | rfl | (congr 1; done) | (simp_all; done), bl⟩
  ·
   as_aux_lemma =>
   clear hk28
   obtain rfl : bT = bX := by rw [← HX.out, ← HBT.out]; unfold txtOk; simp
   obtain rfl : bN = bY := by rw [← HY.out, ← HBN.out]; unfold numOk ctxOk; simp
   go_wp2_with (fail)
   all_goals go_meet
   all_goals exact ⟨by first | rfl | (congr 1; done) | (simp_all; done), by first | rfl | (congr 1; done) | (simp_all; done), bl⟩
 case rest =>
 obtain ⟨rfl, rfl, hbd⟩ := hcut
 clear hz0 x0 x1 hl0 hl1 hn0 hn1
 have hz0 := hbd.size
 simp only [World.size_alloc] at hz0
 have x0 := hbd.box w.heap.size (by simp; omega)
 have x1 := hbd.box (w.heap.size + 1) (by simp)
 have hl0 : w.heap.size < wc.heap.size := by omega
 have hl1 : w.heap.size + 1 < wc.heap.size := by omega
 have hn0 : ¬ w.heap.size = wc.heap.size := by omega
 have hn1 : ¬ w.heap.size + 1 = wc.heap.size := by omega
 cases bX
 case false => as_aux_lemma =>
  have RR := hide (show (TCore.mk k op n li t ks).vld sl gl ro re loop made = false from vldB_no (by rw [HX.out]; simp))
  go_wp2_with (fail)
  all_goals
   go_returns
   exact ⟨ret_bl RR.out.symm, bl⟩
 case true =>
 cases bY
 case false => as_aux_lemma =>
  have RR := hide (show (TCore.mk k op n li t ks).vld sl gl ro re loop made = false from vldB_no (by
   have := HY.out
   rw [Bool.and_eq_false_iff] at this
   rcases this with h | h
   ·
    rw [h]; simp
   ·
    rw [h]; simp))
  go_wp2_with (fail)
  all_goals
   go_returns
   exact ⟨ret_bl RR.out.symm, bl⟩
 case true =>
 have hY2 := HY.out
 simp only [Bool.and_eq_true] at hY2
 have HNU := hide hY2.1
 have HC := hide hY2.2
 clear hY2 HY
 obtain ⟨bD, hbD⟩ : ∃ bD, kidsOk op ks = bD := ⟨_, rfl⟩
 have HD := hide hbD
 clear hbD
 go_upto_region 35 with (fail)
 obtain ⟨bZ, hbZ⟩ : ∃ bZ, (bD || decide (op = 81)) = bZ := ⟨_, rfl⟩
 have HZZ := hide hbZ
 clear hbZ
 go_cut [168] from 17 (fun v wx => v = .bool (!bZ) ∧ Bel ((w.alloc (.cells #[.int .i64 sl, .int .i64 gl, .int .i64 ro, .int .i64 re] 95)).alloc (.cells #[.int .i64 k, .int .i64 op, .int .i64 n, .int .i64 li, .string t, .slice A ks.length c] 53)) wx)
 case first => as_aux_lemma =>
  by_cases o79 : op = 79
  case pos => as_aux_lemma =>
   obtain ⟨a, b, hab⟩ := ks_two HHD.out (kids_op HOP.out (by omega)) o79
   subst hab
   subst o79
   have hbw : Bel w wc := bl
   (obtain ⟨b1, o1, x1_0, x1_1, x1_2, x1_3, x1_4, x1_5, A1_5, C1_5, hA1, hS1, hl1, hx1, hv1, g1_0, g1_1, g1_2, g1_3, g1_4, g1_5, c1_0, c1_1, c1_2, c1_3, c1_4, c1_5⟩ := TCore.at HR.out 1 (by simp); subst hA1; have HV1 := hide (Dat.HoldVals.bel hbw hv1); have hh1 := hbw.box b1 hl1; have hw1 := Nat.lt_of_lt_of_le hl1 (Bel.size hbw); replace c1_0 := (hh1 _).trans c1_0; replace c1_1 := (hh1 _).trans c1_1; replace c1_2 := (hh1 _).trans c1_2; replace c1_3 := (hh1 _).trans c1_3; replace c1_4 := (hh1 _).trans c1_4; replace c1_5 := (hh1 _).trans c1_5; have HX1 := hide hx1; have GR1_5 := hide g1_5; clear hh1 hv1 hx1 hS1 g1_5; simp only [Nat.zero_mul, Nat.one_mul, Nat.add_zero, Nat.reduceMul, Nat.add_assoc, Nat.reduceAdd] at c1_0 c1_1 c1_2 c1_3 c1_4 c1_5)
   have hne1 : ¬ b1 = wc.heap.size := by omega
   have HKV := hide (show kidsOk 79 [a, b] = (decide (x1_0 = 2) && nameB x1_4) by have e := HX1.out; simp at e; rw [e]; rfl)
   by_cases q2 : x1_0 = 2
   case neg => as_aux_lemma =>
    have f2 : (x1_0 != 2) = true := by simp; exact q2
    obtain rfl : false = bD := by rw [← HD.out, HKV.out, decide_eq_false q2]; rfl
    obtain rfl : false = bZ := by rw [← HZZ.out]; simp
    clear q2
    go_wp2_with (fail)
    all_goals go_meet
    all_goals exact ⟨rfl, bl⟩
   case pos =>
   have f2 : (x1_0 != 2) = false := by simp; exact q2
   cases hnb : nameB x1_4
   case false => as_aux_lemma =>
    have HNB := hide hnb
    obtain rfl : false = bD := by rw [← HD.out, HKV.out, decide_eq_true q2, hnb]; rfl
    obtain rfl : false = bZ := by rw [← HZZ.out]; simp
    clear hnb q2
    go_wp2_with (go_at_call 52; refine (implIsName_any _ _ (HT.out.on bl)).mono ?_; rintro e w2 ⟨rfl, hb2⟩; rw [HNB.out]; (have hz2 := hb2.sz; obtain ⟨hk2_0, hf2_0, hl2_0, hn2_0⟩ := hb2.lay (w.heap.size); obtain ⟨hk2_1, hf2_1, hl2_1, hn2_1⟩ := hb2.lay (w.heap.size + 1)))
    all_goals go_meet
    all_goals exact ⟨rfl, bl⟩
   case true => as_aux_lemma =>
    have HNB := hide hnb
    obtain rfl : true = bD := by rw [← HD.out, HKV.out, decide_eq_true q2, hnb]; rfl
    obtain rfl : true = bZ := by rw [← HZZ.out]; simp
    clear hnb q2
    go_wp2_with (go_at_call 52; refine (implIsName_any _ _ (HT.out.on bl)).mono ?_; rintro e w2 ⟨rfl, hb2⟩; rw [HNB.out]; (have hz2 := hb2.sz; obtain ⟨hk2_0, hf2_0, hl2_0, hn2_0⟩ := hb2.lay (w.heap.size); obtain ⟨hk2_1, hf2_1, hl2_1, hn2_1⟩ := hb2.lay (w.heap.size + 1)))
    all_goals go_meet
    all_goals exact ⟨rfl, bl⟩
  case neg =>
  have n79 : (op == 79) = false := by simp; exact o79
  have HQ := hide (show (bD || decide (op = 81)) = true by
   by_cases q : op = 81
   ·
    rw [decide_eq_true q, Bool.or_true]
   ·
    rw [← HD.out]; unfold kidsOk; rw [if_neg o79, if_neg q]; rfl)
  clear o79
  obtain rfl : true = bZ := HQ.out.symm.trans HZZ.out
  go_wp2_with (fail)
  all_goals go_meet
  all_goals exact ⟨rfl, bl⟩
 case rest =>
 obtain ⟨rfl, hbe⟩ := hcut
 clear hz0 x0 x1 hl0 hl1 hn0 hn1
 have hz0 := hbe.size
 simp only [World.size_alloc] at hz0
 have x0 := hbe.box w.heap.size (by simp; omega)
 have x1 := hbe.box (w.heap.size + 1) (by simp)
 have hl0 : w.heap.size < wc.heap.size := by omega
 have hl1 : w.heap.size + 1 < wc.heap.size := by omega
 have hn0 : ¬ w.heap.size = wc.heap.size := by omega
 have hn1 : ¬ w.heap.size + 1 = wc.heap.size := by omega
 cases bZ
 case false => as_aux_lemma =>
  have hz9 := HZZ.out
  rw [Bool.or_eq_false_iff] at hz9
  have RR := hide (show (TCore.mk k op n li t ks).vld sl gl ro re loop made = false from vldB_no (by rw [HD.out, hz9.1]; simp))
  go_wp2_with (fail)
  all_goals
   go_returns
   exact ⟨ret_bl RR.out.symm, bl⟩
 case true =>
 cases bD
 case false => as_aux_lemma =>
  have o81 : op = 81 := by have := HZZ.out; simpa using this
  have RR := hide (show (TCore.mk k op n li t ks).vld sl gl ro re loop made = false from vldB_no (by rw [HD.out]; simp))
  obtain ⟨a, hab⟩ := ks_one HHD.out (kids_op HOP.out (by omega)) o81
  subst hab
  subst o81
  have hbw : Bel w wc := bl
  (obtain ⟨b1, o1, x1_0, x1_1, x1_2, x1_3, x1_4, x1_5, A1_5, C1_5, hA1, hS1, hl1, hx1, hv1, g1_0, g1_1, g1_2, g1_3, g1_4, g1_5, c1_0, c1_1, c1_2, c1_3, c1_4, c1_5⟩ := TCore.at HR.out 0 (by simp); subst hA1; have HV1 := hide (Dat.HoldVals.bel hbw hv1); have hh1 := hbw.box b1 hl1; have hw1 := Nat.lt_of_lt_of_le hl1 (Bel.size hbw); replace c1_0 := (hh1 _).trans c1_0; replace c1_1 := (hh1 _).trans c1_1; replace c1_2 := (hh1 _).trans c1_2; replace c1_3 := (hh1 _).trans c1_3; replace c1_4 := (hh1 _).trans c1_4; replace c1_5 := (hh1 _).trans c1_5; have HX1 := hide hx1; have GR1_5 := hide g1_5; clear hh1 hv1 hx1 hS1 g1_5; simp only [Nat.zero_mul, Nat.one_mul, Nat.add_zero, Nat.reduceMul, Nat.add_assoc, Nat.reduceAdd] at c1_0 c1_1 c1_2 c1_3 c1_4 c1_5)
  have hne1 : ¬ b1 = wc.heap.size := by omega
  have HKV := hide (show kidsOk 81 [a] = decide (x1_0 = 5 ∨ x1_0 = 6) by have e := HX1.out; simp at e; rw [e]; rfl)
  have hkv := HKV.out.symm.trans HD.out
  rw [decide_eq_false_iff_not] at hkv
  have f5 : (x1_0 != 5) = true := by simp; omega
  have f6 : (x1_0 != 6) = true := by simp; omega
  clear hkv
  go_wp2_with (fail)
  all_goals
   go_returns
   exact ⟨ret_bl RR.out.symm, bl⟩
 case true =>
 go_upto_region 37 with (fail)
 go_cut [187] from 17 (fun v wx => v = .bool false ∧ Bel ((w.alloc (.cells #[.int .i64 sl, .int .i64 gl, .int .i64 ro, .int .i64 re] 95)).alloc (.cells #[.int .i64 k, .int .i64 op, .int .i64 n, .int .i64 li, .string t, .slice A ks.length c] 53)) wx)
 case first => as_aux_lemma =>
  by_cases o81 : op = 81
  case pos => as_aux_lemma =>
   obtain ⟨a, hab⟩ := ks_one HHD.out (kids_op HOP.out (by omega)) o81
   subst hab
   subst o81
   have hbw : Bel w wc := bl
   (obtain ⟨b1, o1, x1_0, x1_1, x1_2, x1_3, x1_4, x1_5, A1_5, C1_5, hA1, hS1, hl1, hx1, hv1, g1_0, g1_1, g1_2, g1_3, g1_4, g1_5, c1_0, c1_1, c1_2, c1_3, c1_4, c1_5⟩ := TCore.at HR.out 0 (by simp); subst hA1; have HV1 := hide (Dat.HoldVals.bel hbw hv1); have hh1 := hbw.box b1 hl1; have hw1 := Nat.lt_of_lt_of_le hl1 (Bel.size hbw); replace c1_0 := (hh1 _).trans c1_0; replace c1_1 := (hh1 _).trans c1_1; replace c1_2 := (hh1 _).trans c1_2; replace c1_3 := (hh1 _).trans c1_3; replace c1_4 := (hh1 _).trans c1_4; replace c1_5 := (hh1 _).trans c1_5; have HX1 := hide hx1; have GR1_5 := hide g1_5; clear hh1 hv1 hx1 hS1 g1_5; simp only [Nat.zero_mul, Nat.one_mul, Nat.add_zero, Nat.reduceMul, Nat.add_assoc, Nat.reduceAdd] at c1_0 c1_1 c1_2 c1_3 c1_4 c1_5)
   have hne1 : ¬ b1 = wc.heap.size := by omega
   have HKV := hide (show kidsOk 81 [a] = decide (x1_0 = 5 ∨ x1_0 = 6) by have e := HX1.out; simp at e; rw [e]; rfl)
   have hkv := HKV.out.symm.trans HD.out
   rw [decide_eq_true_eq] at hkv
   rcases hkv with q | q
   ·
    have f5 : (x1_0 != 5) = false := by simp; exact q
    clear q
    go_wp2_with (fail)
    all_goals go_meet
    all_goals exact ⟨rfl, bl⟩
   ·
    have f5 : (x1_0 != 5) = true := by simp; omega
    have f6 : (x1_0 != 6) = false := by simp; exact q
    clear q
    go_wp2_with (fail)
    all_goals go_meet
    all_goals exact ⟨rfl, bl⟩
  case neg =>
  have n81 : (op == 81) = false := by simp; exact o81
  clear o81
  go_wp2_with (fail)
  all_goals go_meet
  all_goals exact ⟨rfl, bl⟩
 case rest =>
 obtain ⟨rfl, hbf⟩ := hcut
 clear hz0 x0 x1 hl0 hl1 hn0 hn1
 have hz0 := hbf.size
 simp only [World.size_alloc] at hz0
 have x0 := hbf.box w.heap.size (by simp; omega)
 have x1 := hbf.box (w.heap.size + 1) (by simp)
 have hl0 : w.heap.size < wc.heap.size := by omega
 have hl1 : w.heap.size + 1 < wc.heap.size := by omega
 have hn0 : ¬ w.heap.size = wc.heap.size := by omega
 have hn1 : ¬ w.heap.size + 1 = wc.heap.size := by omega
 have HALL := hide (show (hdOk k op li ks.length && numOk sl gl ro re k n && opOk k op && txtOk k t && ctxOk k loop made && kidsOk op ks) = true by rw [HHD.out, HNU.out, HOP.out, HX.out, HC.out, HD.out]; rfl)
 go_wp2_with (fail)
 have HWC := hide hbf
 clear hz0 x0 x1 hl0 hl1 hn0 hn1
 go_loopw [191] (fun v wr => ∃ m : Nat, v = .int .i64 m ∧ m ≤ ks.length ∧ Hid (∀ j (hj : j < ks.length), j < m → ks[j].vld sl gl ro re (innerB k j loop) (made || decide (k = 26)) = true) ∧ Bel ((w.alloc (.cells #[.int .i64 sl, .int .i64 gl, .int .i64 ro, .int .i64 re] 95)).alloc (.cells #[.int .i64 k, .int .i64 op, .int .i64 n, .int .i64 li, .string t, .slice A ks.length c] 53)) wr) (fun v _ => ks.length - (intOf v).toNat)
 case atStart => exact ⟨0, rfl, by omega, fun j _ hj => by omega, bl⟩
 case round => as_aux_lemma =>
  obtain ⟨m, rfl, hm, hK, hbx⟩ := hrel
  have hz0 := hbx.size
  simp only [World.size_alloc] at hz0
  have x0 := hbx.box w.heap.size (by simp; omega)
  have x1 := hbx.box (w.heap.size + 1) (by simp)
  have hq0 : ¬ w.heap.size = wr.heap.size := by omega
  have hq1 : ¬ w.heap.size + 1 = wr.heap.size := by omega
  have hl0 : w.heap.size < wr.heap.size := by omega
  have hl1 : w.heap.size + 1 < wr.heap.size := by omega
  have hq2 : ¬ wr.heap.size = w.heap.size + 1 := by omega
  have p1_0 : wr.cell? ⟨w.heap.size + 1, 0, none⟩ = some (.int .i64 k) := (x1 0).trans (by simp)
  have p0_0 : wr.cell? ⟨w.heap.size, 0, none⟩ = some (.int .i64 sl) := (x0 0).trans (by simp)
  have p0_1 : wr.cell? ⟨w.heap.size, 1, none⟩ = some (.int .i64 gl) := (x0 1).trans (by simp)
  have p0_2 : wr.cell? ⟨w.heap.size, 2, none⟩ = some (.int .i64 ro) := (x0 2).trans (by simp)
  have p0_3 : wr.cell? ⟨w.heap.size, 3, none⟩ = some (.int .i64 re) := (x0 3).trans (by simp)
  by_cases h1 : m < ks.length
  case neg => as_aux_lemma =>
   have hd : decide ((m : Int) < (ks.length : Int)) = false := by simp; omega
   have RR := hide (vldB_yes (sl := sl) (gl := gl) (ro := ro) (re := re) (k := k) (op := op) (n := n) (li := li) (t := t) (loop := loop) (made := made) HALL.out (fun j hj => hK.out j hj (by omega)))
   go_wp2_with (fail)
   all_goals
    go_returns
    exact ⟨ret_bl RR.out.symm, bl⟩
  case pos =>
  have hd : decide ((m : Int) < (ks.length : Int)) = true := by simp; omega
  have hbw : Bel w wr := bl
  (obtain ⟨b1, o1, x1_0, x1_1, x1_2, x1_3, x1_4, x1_5, A1_5, C1_5, hA1, hS1, hl1, hx1, hv1, g1_0, g1_1, g1_2, g1_3, g1_4, g1_5, c1_0, c1_1, c1_2, c1_3, c1_4, c1_5⟩ := TCore.at HR.out m h1; subst hA1; have HV1 := hide (Dat.HoldVals.bel hbw hv1); have hh1 := hbw.box b1 hl1; have hw1 := Nat.lt_of_lt_of_le hl1 (Bel.size hbw); replace c1_0 := (hh1 _).trans c1_0; replace c1_1 := (hh1 _).trans c1_1; replace c1_2 := (hh1 _).trans c1_2; replace c1_3 := (hh1 _).trans c1_3; replace c1_4 := (hh1 _).trans c1_4; replace c1_5 := (hh1 _).trans c1_5; have HX1 := hide hx1; have GR1_5 := hide g1_5; clear hh1 hv1 hx1 hS1 g1_5)
  have hne1 : ¬ b1 = wr.heap.size := by omega
  by_cases k18 : k = 18
  case pos => as_aux_lemma =>
   subst k18
   obtain ⟨bI, hI⟩ : ∃ bI, ((m : Int) == 1) = bI := ⟨_, rfl⟩
   have HIN := hide (show innerB (18 : Int) m loop = bI by rw [← hI]; unfold innerB; rw [if_pos (by simp), Bool.eq_iff_iff]; simp; omega)
   cases made
   case false => as_aux_lemma =>
    have HMK := hide (show (false || decide ((18 : Int) = 26)) = false by simp)
    cases hkv : ks[m].vld sl gl ro re bI false
    case false => as_aux_lemma =>
     have HKV := hide hkv
     have HKM := hide (show ks[m].vld sl gl ro re (innerB (18 : Int) m loop) (false || decide ((18 : Int) = 26)) = false by rw [HIN.out, HMK.out]; exact hkv)
     clear hkv
     have RR := hide (vldB_kid (op := op) (n := n) (li := li) (t := t) m h1 HKM.out)
     go_wp2_with (go_at_call 57; (with_reducible refine (IH'.out m h1 S _ _ _ _ _ _ _ _ (HT.out.on bl) (Dat.HoldVals.bel bl HV1.out)).mono ?_); rintro e w3 ⟨rfl, hb3⟩; rw [HKV.out])
     all_goals
      go_returns
      exact ⟨ret_bl RR.out.symm, bl⟩
    case true => as_aux_lemma =>
     have HKV := hide hkv
     have HKM := hide (show ks[m].vld sl gl ro re (innerB (18 : Int) m loop) (false || decide ((18 : Int) = 26)) = true by rw [HIN.out, HMK.out]; exact hkv)
     clear hkv
     go_wp2_with (go_at_call 57; (with_reducible refine (IH'.out m h1 S _ _ _ _ _ _ _ _ (HT.out.on bl) (Dat.HoldVals.bel bl HV1.out)).mono ?_); rintro e w3 ⟨rfl, hb3⟩; rw [HKV.out])
     go_roundw
     case rel => exact ⟨m + 1, by go_num, by omega, hide (fun j hj hjm => by
      by_cases e : j = m
      ·
       subst e; exact HKM.out
      ·
       exact hK.out j hj (by omega)), bl⟩
     case measure => simp [intOf]; omega
   case true => as_aux_lemma =>
    have HMK := hide (show (true || decide ((18 : Int) = 26)) = true by simp)
    cases hkv : ks[m].vld sl gl ro re bI true
    case false => as_aux_lemma =>
     have HKV := hide hkv
     have HKM := hide (show ks[m].vld sl gl ro re (innerB (18 : Int) m loop) (true || decide ((18 : Int) = 26)) = false by rw [HIN.out, HMK.out]; exact hkv)
     clear hkv
     have RR := hide (vldB_kid (op := op) (n := n) (li := li) (t := t) m h1 HKM.out)
     go_wp2_with (go_at_call 57; (with_reducible refine (IH'.out m h1 S _ _ _ _ _ _ _ _ (HT.out.on bl) (Dat.HoldVals.bel bl HV1.out)).mono ?_); rintro e w3 ⟨rfl, hb3⟩; rw [HKV.out])
     all_goals
      go_returns
      exact ⟨ret_bl RR.out.symm, bl⟩
    case true => as_aux_lemma =>
     have HKV := hide hkv
     have HKM := hide (show ks[m].vld sl gl ro re (innerB (18 : Int) m loop) (true || decide ((18 : Int) = 26)) = true by rw [HIN.out, HMK.out]; exact hkv)
     clear hkv
     go_wp2_with (go_at_call 57; (with_reducible refine (IH'.out m h1 S _ _ _ _ _ _ _ _ (HT.out.on bl) (Dat.HoldVals.bel bl HV1.out)).mono ?_); rintro e w3 ⟨rfl, hb3⟩; rw [HKV.out])
     go_roundw
     case rel => exact ⟨m + 1, by go_num, by omega, hide (fun j hj hjm => by
      by_cases e : j = m
      ·
       subst e; exact HKM.out
      ·
       exact hK.out j hj (by omega)), bl⟩
     case measure => simp [intOf]; omega
  case neg =>
  have n18 : (k == 18) = false := by simp; exact k18
  by_cases k19 : k = 19
  case pos => as_aux_lemma =>
   subst k19
   obtain ⟨bI, hI⟩ : ∃ bI, ((m : Int) == 1) = bI := ⟨_, rfl⟩
   have HIN := hide (show innerB (19 : Int) m loop = bI by rw [← hI]; unfold innerB; rw [if_pos (by simp), Bool.eq_iff_iff]; simp; omega)
   cases made
   case false => as_aux_lemma =>
    have HMK := hide (show (false || decide ((19 : Int) = 26)) = false by simp)
    cases hkv : ks[m].vld sl gl ro re bI false
    case false => as_aux_lemma =>
     have HKV := hide hkv
     have HKM := hide (show ks[m].vld sl gl ro re (innerB (19 : Int) m loop) (false || decide ((19 : Int) = 26)) = false by rw [HIN.out, HMK.out]; exact hkv)
     clear hkv
     have RR := hide (vldB_kid (op := op) (n := n) (li := li) (t := t) m h1 HKM.out)
     go_wp2_with (go_at_call 57; (with_reducible refine (IH'.out m h1 S _ _ _ _ _ _ _ _ (HT.out.on bl) (Dat.HoldVals.bel bl HV1.out)).mono ?_); rintro e w3 ⟨rfl, hb3⟩; rw [HKV.out])
     all_goals
      go_returns
      exact ⟨ret_bl RR.out.symm, bl⟩
    case true => as_aux_lemma =>
     have HKV := hide hkv
     have HKM := hide (show ks[m].vld sl gl ro re (innerB (19 : Int) m loop) (false || decide ((19 : Int) = 26)) = true by rw [HIN.out, HMK.out]; exact hkv)
     clear hkv
     go_wp2_with (go_at_call 57; (with_reducible refine (IH'.out m h1 S _ _ _ _ _ _ _ _ (HT.out.on bl) (Dat.HoldVals.bel bl HV1.out)).mono ?_); rintro e w3 ⟨rfl, hb3⟩; rw [HKV.out])
     go_roundw
     case rel => exact ⟨m + 1, by go_num, by omega, hide (fun j hj hjm => by
      by_cases e : j = m
      ·
       subst e; exact HKM.out
      ·
       exact hK.out j hj (by omega)), bl⟩
     case measure => simp [intOf]; omega
   case true => as_aux_lemma =>
    have HMK := hide (show (true || decide ((19 : Int) = 26)) = true by simp)
    cases hkv : ks[m].vld sl gl ro re bI true
    case false => as_aux_lemma =>
     have HKV := hide hkv
     have HKM := hide (show ks[m].vld sl gl ro re (innerB (19 : Int) m loop) (true || decide ((19 : Int) = 26)) = false by rw [HIN.out, HMK.out]; exact hkv)
     clear hkv
     have RR := hide (vldB_kid (op := op) (n := n) (li := li) (t := t) m h1 HKM.out)
     go_wp2_with (go_at_call 57; (with_reducible refine (IH'.out m h1 S _ _ _ _ _ _ _ _ (HT.out.on bl) (Dat.HoldVals.bel bl HV1.out)).mono ?_); rintro e w3 ⟨rfl, hb3⟩; rw [HKV.out])
     all_goals
      go_returns
      exact ⟨ret_bl RR.out.symm, bl⟩
    case true => as_aux_lemma =>
     have HKV := hide hkv
     have HKM := hide (show ks[m].vld sl gl ro re (innerB (19 : Int) m loop) (true || decide ((19 : Int) = 26)) = true by rw [HIN.out, HMK.out]; exact hkv)
     clear hkv
     go_wp2_with (go_at_call 57; (with_reducible refine (IH'.out m h1 S _ _ _ _ _ _ _ _ (HT.out.on bl) (Dat.HoldVals.bel bl HV1.out)).mono ?_); rintro e w3 ⟨rfl, hb3⟩; rw [HKV.out])
     go_roundw
     case rel => exact ⟨m + 1, by go_num, by omega, hide (fun j hj hjm => by
      by_cases e : j = m
      ·
       subst e; exact HKM.out
      ·
       exact hK.out j hj (by omega)), bl⟩
     case measure => simp [intOf]; omega
  case neg =>
  have n19 : (k == 19) = false := by simp; exact k19
  by_cases k20 : k = 20
  case pos => as_aux_lemma =>
   subst k20
   have HIN := hide (show innerB (20 : Int) m loop = false by unfold innerB; simp)
   cases made
   case false => as_aux_lemma =>
    have HMK := hide (show (false || decide ((20 : Int) = 26)) = false by simp)
    cases hkv : ks[m].vld sl gl ro re false false
    case false => as_aux_lemma =>
     have HKV := hide hkv
     have HKM := hide (show ks[m].vld sl gl ro re (innerB (20 : Int) m loop) (false || decide ((20 : Int) = 26)) = false by rw [HIN.out, HMK.out]; exact hkv)
     clear hkv
     have RR := hide (vldB_kid (op := op) (n := n) (li := li) (t := t) m h1 HKM.out)
     go_wp2_with (go_at_call 57; (with_reducible refine (IH'.out m h1 S _ _ _ _ _ _ _ _ (HT.out.on bl) (Dat.HoldVals.bel bl HV1.out)).mono ?_); rintro e w3 ⟨rfl, hb3⟩; rw [HKV.out])
     all_goals
      go_returns
      exact ⟨ret_bl RR.out.symm, bl⟩
    case true => as_aux_lemma =>
     have HKV := hide hkv
     have HKM := hide (show ks[m].vld sl gl ro re (innerB (20 : Int) m loop) (false || decide ((20 : Int) = 26)) = true by rw [HIN.out, HMK.out]; exact hkv)
     clear hkv
     go_wp2_with (go_at_call 57; (with_reducible refine (IH'.out m h1 S _ _ _ _ _ _ _ _ (HT.out.on bl) (Dat.HoldVals.bel bl HV1.out)).mono ?_); rintro e w3 ⟨rfl, hb3⟩; rw [HKV.out])
     go_roundw
     case rel => exact ⟨m + 1, by go_num, by omega, hide (fun j hj hjm => by
      by_cases e : j = m
      ·
       subst e; exact HKM.out
      ·
       exact hK.out j hj (by omega)), bl⟩
     case measure => simp [intOf]; omega
   case true => as_aux_lemma =>
    have HMK := hide (show (true || decide ((20 : Int) = 26)) = true by simp)
    cases hkv : ks[m].vld sl gl ro re false true
    case false => as_aux_lemma =>
     have HKV := hide hkv
     have HKM := hide (show ks[m].vld sl gl ro re (innerB (20 : Int) m loop) (true || decide ((20 : Int) = 26)) = false by rw [HIN.out, HMK.out]; exact hkv)
     clear hkv
     have RR := hide (vldB_kid (op := op) (n := n) (li := li) (t := t) m h1 HKM.out)
     go_wp2_with (go_at_call 57; (with_reducible refine (IH'.out m h1 S _ _ _ _ _ _ _ _ (HT.out.on bl) (Dat.HoldVals.bel bl HV1.out)).mono ?_); rintro e w3 ⟨rfl, hb3⟩; rw [HKV.out])
     all_goals
      go_returns
      exact ⟨ret_bl RR.out.symm, bl⟩
    case true => as_aux_lemma =>
     have HKV := hide hkv
     have HKM := hide (show ks[m].vld sl gl ro re (innerB (20 : Int) m loop) (true || decide ((20 : Int) = 26)) = true by rw [HIN.out, HMK.out]; exact hkv)
     clear hkv
     go_wp2_with (go_at_call 57; (with_reducible refine (IH'.out m h1 S _ _ _ _ _ _ _ _ (HT.out.on bl) (Dat.HoldVals.bel bl HV1.out)).mono ?_); rintro e w3 ⟨rfl, hb3⟩; rw [HKV.out])
     go_roundw
     case rel => exact ⟨m + 1, by go_num, by omega, hide (fun j hj hjm => by
      by_cases e : j = m
      ·
       subst e; exact HKM.out
      ·
       exact hK.out j hj (by omega)), bl⟩
     case measure => simp [intOf]; omega
  case neg =>
  have n20 : (k == 20) = false := by simp; exact k20
  by_cases k26 : k = 26
  case pos => as_aux_lemma =>
   subst k26
   have HIN := hide (show innerB (26 : Int) m loop = false by unfold innerB; simp)
   cases made
   case false => as_aux_lemma =>
    have HMK := hide (show (false || decide ((26 : Int) = 26)) = true by simp)
    cases hkv : ks[m].vld sl gl ro re false true
    case false => as_aux_lemma =>
     have HKV := hide hkv
     have HKM := hide (show ks[m].vld sl gl ro re (innerB (26 : Int) m loop) (false || decide ((26 : Int) = 26)) = false by rw [HIN.out, HMK.out]; exact hkv)
     clear hkv
     have RR := hide (vldB_kid (op := op) (n := n) (li := li) (t := t) m h1 HKM.out)
     go_wp2_with (go_at_call 57; (with_reducible refine (IH'.out m h1 S _ _ _ _ _ _ _ _ (HT.out.on bl) (Dat.HoldVals.bel bl HV1.out)).mono ?_); rintro e w3 ⟨rfl, hb3⟩; rw [HKV.out])
     all_goals
      go_returns
      exact ⟨ret_bl RR.out.symm, bl⟩
    case true => as_aux_lemma =>
     have HKV := hide hkv
     have HKM := hide (show ks[m].vld sl gl ro re (innerB (26 : Int) m loop) (false || decide ((26 : Int) = 26)) = true by rw [HIN.out, HMK.out]; exact hkv)
     clear hkv
     go_wp2_with (go_at_call 57; (with_reducible refine (IH'.out m h1 S _ _ _ _ _ _ _ _ (HT.out.on bl) (Dat.HoldVals.bel bl HV1.out)).mono ?_); rintro e w3 ⟨rfl, hb3⟩; rw [HKV.out])
     go_roundw
     case rel => exact ⟨m + 1, by go_num, by omega, hide (fun j hj hjm => by
      by_cases e : j = m
      ·
       subst e; exact HKM.out
      ·
       exact hK.out j hj (by omega)), bl⟩
     case measure => simp [intOf]; omega
   case true => as_aux_lemma =>
    have HMK := hide (show (true || decide ((26 : Int) = 26)) = true by simp)
    cases hkv : ks[m].vld sl gl ro re false true
    case false => as_aux_lemma =>
     have HKV := hide hkv
     have HKM := hide (show ks[m].vld sl gl ro re (innerB (26 : Int) m loop) (true || decide ((26 : Int) = 26)) = false by rw [HIN.out, HMK.out]; exact hkv)
     clear hkv
     have RR := hide (vldB_kid (op := op) (n := n) (li := li) (t := t) m h1 HKM.out)
     go_wp2_with (go_at_call 57; (with_reducible refine (IH'.out m h1 S _ _ _ _ _ _ _ _ (HT.out.on bl) (Dat.HoldVals.bel bl HV1.out)).mono ?_); rintro e w3 ⟨rfl, hb3⟩; rw [HKV.out])
     all_goals
      go_returns
      exact ⟨ret_bl RR.out.symm, bl⟩
    case true => as_aux_lemma =>
     have HKV := hide hkv
     have HKM := hide (show ks[m].vld sl gl ro re (innerB (26 : Int) m loop) (true || decide ((26 : Int) = 26)) = true by rw [HIN.out, HMK.out]; exact hkv)
     clear hkv
     go_wp2_with (go_at_call 57; (with_reducible refine (IH'.out m h1 S _ _ _ _ _ _ _ _ (HT.out.on bl) (Dat.HoldVals.bel bl HV1.out)).mono ?_); rintro e w3 ⟨rfl, hb3⟩; rw [HKV.out])
     go_roundw
     case rel => exact ⟨m + 1, by go_num, by omega, hide (fun j hj hjm => by
      by_cases e : j = m
      ·
       subst e; exact HKM.out
      ·
       exact hK.out j hj (by omega)), bl⟩
     case measure => simp [intOf]; omega
  case neg =>
  have n26 : (k == 26) = false := by simp; exact k26
  have HK26 := hide (show decide (k = 26) = false from decide_eq_false k26)
  have HIN := hide (show innerB k m loop = loop by unfold innerB; simp [k18, k19, k20, k26])
  clear k18 k19 k20 k26
  cases made
  case false => as_aux_lemma =>
   have HMK := hide (show (false || decide (k = 26)) = false by rw [HK26.out]; rfl)
   cases hkv : ks[m].vld sl gl ro re loop false
   case false => as_aux_lemma =>
    have HKV := hide hkv
    have HKM := hide (show ks[m].vld sl gl ro re (innerB k m loop) (false || decide (k = 26)) = false by rw [HIN.out, HMK.out]; exact hkv)
    clear hkv
    have RR := hide (vldB_kid (op := op) (n := n) (li := li) (t := t) m h1 HKM.out)
    go_wp2_with (go_at_call 57; (with_reducible refine (IH'.out m h1 S _ _ _ _ _ _ _ _ (HT.out.on bl) (Dat.HoldVals.bel bl HV1.out)).mono ?_); rintro e w3 ⟨rfl, hb3⟩; rw [HKV.out])
    all_goals
     go_returns
     exact ⟨ret_bl RR.out.symm, bl⟩
   case true => as_aux_lemma =>
    have HKV := hide hkv
    have HKM := hide (show ks[m].vld sl gl ro re (innerB k m loop) (false || decide (k = 26)) = true by rw [HIN.out, HMK.out]; exact hkv)
    clear hkv
    go_wp2_with (go_at_call 57; (with_reducible refine (IH'.out m h1 S _ _ _ _ _ _ _ _ (HT.out.on bl) (Dat.HoldVals.bel bl HV1.out)).mono ?_); rintro e w3 ⟨rfl, hb3⟩; rw [HKV.out])
    go_roundw
    case rel => exact ⟨m + 1, by go_num, by omega, hide (fun j hj hjm => by
     by_cases e : j = m
     ·
      subst e; exact HKM.out
     ·
      exact hK.out j hj (by omega)), bl⟩
    case measure => simp [intOf]; omega
  case true => as_aux_lemma =>
   have HMK := hide (show (true || decide (k = 26)) = true by simp)
   cases hkv : ks[m].vld sl gl ro re loop true
   case false => as_aux_lemma =>
    have HKV := hide hkv
    have HKM := hide (show ks[m].vld sl gl ro re (innerB k m loop) (true || decide (k = 26)) = false by rw [HIN.out, HMK.out]; exact hkv)
    clear hkv
    have RR := hide (vldB_kid (op := op) (n := n) (li := li) (t := t) m h1 HKM.out)
    go_wp2_with (go_at_call 57; (with_reducible refine (IH'.out m h1 S _ _ _ _ _ _ _ _ (HT.out.on bl) (Dat.HoldVals.bel bl HV1.out)).mono ?_); rintro e w3 ⟨rfl, hb3⟩; rw [HKV.out])
    all_goals
     go_returns
     exact ⟨ret_bl RR.out.symm, bl⟩
   case true => as_aux_lemma =>
    have HKV := hide hkv
    have HKM := hide (show ks[m].vld sl gl ro re (innerB k m loop) (true || decide (k = 26)) = true by rw [HIN.out, HMK.out]; exact hkv)
    clear hkv
    go_wp2_with (go_at_call 57; (with_reducible refine (IH'.out m h1 S _ _ _ _ _ _ _ _ (HT.out.on bl) (Dat.HoldVals.bel bl HV1.out)).mono ?_); rintro e w3 ⟨rfl, hb3⟩; rw [HKV.out])
    go_roundw
    case rel => exact ⟨m + 1, by go_num, by omega, hide (fun j hj hjm => by
     by_cases e : j = m
     ·
      subst e; exact HKM.out
     ·
      exact hK.out j hj (by omega)), bl⟩
    case measure => simp [intOf]; omega
theorem validCore_any : ∀ t, IVld t := TCore.ind fun k op n li t ks IH => validCore_mk k op n li t ks IH
end Go.Proofs.YtgofbnmablgedaaGreatDoor
