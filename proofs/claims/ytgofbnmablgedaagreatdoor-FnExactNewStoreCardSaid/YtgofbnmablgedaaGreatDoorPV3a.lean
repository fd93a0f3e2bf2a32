/- Valid cores: the reference, the text of a set. -/
import Derived.Test.YtgofbnmablgedaaGreatDoorPV1
import Derived.Test.YtgofbnmablgedaaGreatDoorPTk
import Derived.Deep.RegionHeld3
import Derived.Deep.Cut
import Derived.Deep.CutBlock
import Derived.OwnWalk
namespace Go.Proofs.YtgofbnmablgedaaGreatDoor
set_option linter.unusedVariables false
set_option linter.unusedSimpArgs false
set_option maxRecDepth 100000
open Go.RowKit
set_option maxHeartbeats 8000000 in
theorem l10Valid_3 (op n li : Int) (t : ByteArray) (ks : List TCore) (IH : ∀ (i : Nat) (hi : i < ks.length), SVld ks[i]) : SVld (.mk 3 op n li t ks) := by
 intro S w vs m0 m1 m2 c0 c1 c2 A0 A1 A2 mn sl deep loop made hv hm0 hm1 hm2 hs0 hs1 hd0 hd1
 have IH' := hide IH
 obtain ⟨A, c, rfl, -, hop, hn, hli, hts, hR⟩ := TCore.vals hv
 have HR := hide hR
 have hlc := HR.out.1
 have hcm := HR.out.2.1
 simp only [List.length_map] at hlc
 unfold maxLen at hcm
 have HTS := hide hts
 have HM0 := hide hm0
 have HM1 := hide hm1
 have HM2 := hide hm2
 have HS0 := hide hs0
 have HS1 := hide hs1
 unfold maxLen at hts
 clear IH hR hv hm0 hm1 hm2
 obtain ⟨lo, hi, hL⟩ : ∃ lo hi, lohi (3 : Int) op = (lo, hi) := ⟨_, _, rfl⟩
 have HL := hide hL
 have HH := hide (show hdOk (3 : Int) op li ks.length = (decide (1 ≤ (3 : Int)) && decide ((3 : Int) ≤ 28) && decide (0 ≤ li) && decide (lo ≤ (ks.length : Int)) && decide ((ks.length : Int) ≤ hi)) by unfold hdOk; rw [hL])
 clear hL
 obtain ⟨bA, hbA⟩ : ∃ bA, (decide (deep ≤ 400) && hdOk (3 : Int) op li ks.length && numOk sl m2 m0 m1 (3 : Int) n) = bA := ⟨_, rfl⟩
 have HA := hide hbA
 clear hbA
 go_enter Tryz.func46, Tryz.ntmps46
 go_upto_region 2 with (go_at_call 71; refine (l10Counts_any _ _ _ _ _ _ _ _ _).mono ?_; rintro e w1 ⟨rfl, hb1⟩; rw [HL.out]; (have hz1 := hb1.sz; obtain ⟨hk1_0, hf1_0, hl1_0, hn1_0⟩ := hb1.lay (w.heap.size); obtain ⟨hk1_1, hf1_1, hl1_1, hn1_1⟩ := hb1.lay (w.heap.size + 1)))
 go_cut [61] from 19 (fun v wx => v = .bool (!bA) ∧ Bel ((w.alloc (.cells #[.slice A0 m0 c0, .slice A1 m1 c1, .slice A2 m2 c2, .int .i64 mn] 38)).alloc (.cells #[.int .i64 3, .int .i64 op, .int .i64 n, .int .i64 li, .string t, .slice A ks.length c] 53)) wx)
 case first => as_aux_lemma =>
  by_cases c1 : deep ≤ 400
  case neg => as_aux_lemma =>
   have c1f : decide (400 < deep) = true := by simp; omega
   obtain rfl : false = bA := by rw [← HA.out, decide_eq_false c1]; simp
   clear c1
   go_wp2_with (fail)
   all_goals go_meet
   all_goals exact ⟨rfl, bl⟩
  case pos =>
  have c1f : decide (400 < deep) = false := by simp; omega
  by_cases c4 : 0 ≤ li
  case neg => as_aux_lemma =>
   have c4f : decide (li < 0) = true := by simp; omega
   obtain rfl : false = bA := by rw [← HA.out, HH.out, decide_eq_false c4]; simp
   clear c4
   go_wp2_with (fail)
   all_goals go_meet
   all_goals exact ⟨rfl, bl⟩
  case pos =>
  have c4f : decide (li < 0) = false := by simp; omega
  by_cases c5 : lo ≤ (ks.length : Int)
  case neg => as_aux_lemma =>
   have c5f : decide ((ks.length : Int) < lo) = true := by simp; omega
   obtain rfl : false = bA := by rw [← HA.out, HH.out, decide_eq_false c5]; simp
   clear c5
   go_wp2_with (fail)
   all_goals go_meet
   all_goals exact ⟨rfl, bl⟩
  case pos =>
  have c5f : decide ((ks.length : Int) < lo) = false := by simp; omega
  by_cases c6 : (ks.length : Int) ≤ hi
  case neg => as_aux_lemma =>
   have c6f : decide (hi < (ks.length : Int)) = true := by simp; omega
   obtain rfl : false = bA := by rw [← HA.out, HH.out, decide_eq_false c6]; simp
   clear c6
   go_wp2_with (fail)
   all_goals go_meet
   all_goals exact ⟨rfl, bl⟩
  case pos =>
  have c6f : decide (hi < (ks.length : Int)) = false := by simp; omega
  have HHT := hide (show hdOk (3 : Int) op li ks.length = true by rw [HH.out, decide_eq_true c4, decide_eq_true c5, decide_eq_true c6]; rfl)
  cases hnum : numOk sl m2 m0 m1 (3 : Int) n
  case false => as_aux_lemma =>
   have HNU := hide hnum
   obtain rfl : false = bA := by rw [← HA.out, hnum]; simp
   clear hnum
   go_wp2_with (go_at_call 72; refine (l10Leaf_any _ _ _ _ _ _ _ _ _ _ _ _ _ _ _ _ _ _ _ _ HM0.out HM1.out HM2.out HS0.out HS1.out).mono ?_; rintro e w2 ⟨rfl, hb2⟩; rw [HNU.out])
   all_goals go_meet
   all_goals exact ⟨rfl, bl⟩
  case true => as_aux_lemma =>
   have HNU := hide hnum
   obtain rfl : true = bA := by rw [← HA.out, HHT.out, hnum, decide_eq_true c1]; rfl
   clear hnum
   go_wp2_with (go_at_call 72; refine (l10Leaf_any _ _ _ _ _ _ _ _ _ _ _ _ _ _ _ _ _ _ _ _ HM0.out HM1.out HM2.out HS0.out HS1.out).mono ?_; rintro e w2 ⟨rfl, hb2⟩; rw [HNU.out])
   all_goals go_meet
   all_goals exact ⟨rfl, bl⟩
 case rest =>
 obtain ⟨rfl, hbc⟩ := hcut
 have hz0 := hbc.size
 simp only [World.size_alloc] at hz0
 have x0 := hbc.box w.heap.size (by simp; omega)
 have x1 := hbc.box (w.heap.size + 1) (by simp)
 have hl0 : w.heap.size < wc.heap.size := by omega
 have hl1 : w.heap.size + 1 < wc.heap.size := by omega
 have hn0 : ¬ w.heap.size = wc.heap.size := by omega
 have hn1 : ¬ w.heap.size + 1 = wc.heap.size := by omega
 cases bA
 case false => as_aux_lemma =>
  have RR := hide (show (decide (deep + ((TCore.mk (3 : Int) op n li t ks).dep : Int) ≤ 401) && (TCore.mk (3 : Int) op n li t ks).vld sl m2 m0 m1 loop made) = false by
   have := HA.out
   by_cases c1 : deep ≤ 400
   ·
    refine vld_no ?_
    rw [decide_eq_true c1, Bool.true_and] at this
    rw [this]; rfl
   ·
    rw [decide_eq_false (show ¬ deep + ((TCore.mk (3 : Int) op n li t ks).dep : Int) ≤ 401 by simp only [TCore.dep]; omega)]; rfl)
  go_wp2_with (fail)
  all_goals
   go_returns
   exact ⟨ret_bl RR.out.symm, bl⟩
 case true =>
 have hA2 := HA.out
 simp only [Bool.and_eq_true, decide_eq_true_eq] at hA2
 obtain ⟨⟨hdp, hHD⟩, hNU⟩ := hA2
 have HDP := hide hdp
 have HHD := hide hHD
 have HNU := hide hNU
 clear hHD hNU HA
 obtain ⟨bB, hbB⟩ : ∃ bB, (opOk (3 : Int) op && txt2 (3 : Int) t) = bB := ⟨_, rfl⟩
 have HB := hide hbB
 clear hbB
 go_upto_region 4 with (fail)
 go_cut [101] from 19 (fun v wx => v = .bool (!bB) ∧ Bel ((w.alloc (.cells #[.slice A0 m0 c0, .slice A1 m1 c1, .slice A2 m2 c2, .int .i64 mn] 38)).alloc (.cells #[.int .i64 3, .int .i64 op, .int .i64 n, .int .i64 li, .string t, .slice A ks.length c] 53)) wx)
 case first => as_aux_lemma =>
  have t0e : (t.toList.isEmpty = true ↔ t.size = 0) := tlE
  by_cases hop0 : op = 0
  case neg => as_aux_lemma =>
   have fop : (op != 0) = true := by simp; exact hop0
   obtain rfl : false = bB := by rw [← HB.out]; unfold opOk txt2; simp [hop0]
   clear hop0 t0e
   go_wp2_with (fail)
   all_goals go_meet
   all_goals exact ⟨rfl, bl⟩
  case pos =>
  subst hop0
  by_cases h128 : t.size ≤ 128
  case neg => as_aux_lemma =>
   obtain rfl : false = bB := by rw [← HB.out]; unfold opOk txt2; simp [h128]
   have s1 : decide ((128 : Int) < (t.size : Int)) = true := by simp; omega
   have s1n : decide (128 < t.size) = true := by simp; omega
   clear h128 t0e
   go_wp2_with (fail)
   all_goals go_meet
   all_goals exact ⟨rfl, bl⟩
  case pos =>
  obtain rfl : true = bB := by rw [← HB.out]; unfold opOk txt2; simp [h128]
  have s1 : decide ((128 : Int) < (t.size : Int)) = false := by simp; omega
  have s1n : decide (128 < t.size) = false := by simp; omega
  clear h128 t0e
  go_wp2_with (fail)
  all_goals go_meet
  all_goals exact ⟨rfl, bl⟩
 case rest =>
 obtain ⟨rfl, hbd⟩ := hcut
 clear hz0 x0 x1 hl0 hl1 hn0 hn1 hbc
 have hz0 := hbd.size
 simp only [World.size_alloc] at hz0
 have x0 := hbd.box w.heap.size (by simp; omega)
 have x1 := hbd.box (w.heap.size + 1) (by simp)
 have hl0 : w.heap.size < wc.heap.size := by omega
 have hl1 : w.heap.size + 1 < wc.heap.size := by omega
 have hn0 : ¬ w.heap.size = wc.heap.size := by omega
 have hn1 : ¬ w.heap.size + 1 = wc.heap.size := by omega
 cases bB
 case false => as_aux_lemma =>
  have RR := hide (show (decide (deep + ((TCore.mk (3 : Int) op n li t ks).dep : Int) ≤ 401) && (TCore.mk (3 : Int) op n li t ks).vld sl m2 m0 m1 loop made) = false by
   refine vld_no ?_
   have := HB.out
   rw [Bool.and_eq_false_iff] at this
   rcases this with h | h
   ·
    rw [h]; simp
   ·
    rw [txt2_no h]; simp)
  go_wp2_with (fail)
  all_goals
   go_returns
   exact ⟨ret_bl RR.out.symm, bl⟩
 case true =>
 have hB2 := HB.out
 simp only [Bool.and_eq_true] at hB2
 have HOP := hide hB2.1
 have HT2 := hide hB2.2
 clear hB2 HB
 have HAC := hide (asc_cset t)
 cases hok : nsOk t
 case false => as_aux_lemma =>
  have HOK := hide hok
  have RR := hide (show (decide (deep + ((TCore.mk 3 op n li t ks).dep : Int) ≤ 401) && (TCore.mk 3 op n li t ks).vld sl m2 m0 m1 loop made) = false from vld_no (by rw [show txtOk 3 t = ascB t by unfold txtOk; simp, ← HAC.out, hok]; simp))
  clear hok
  go_wp2_with (go_at_call 73; refine (specNewCset_any _ _ HTS.out).mono ?_; rintro e w3 ⟨rfl, hb3⟩; rw [HOK.out]; (have hz3 := hb3.sz; obtain ⟨hk3_0, hf3_0, hl3_0, hn3_0⟩ := hb3.lay (w.heap.size); obtain ⟨hk3_1, hf3_1, hl3_1, hn3_1⟩ := hb3.lay (w.heap.size + 1)))
  go_quiet (fail)
  go_wp2_with (fail)
  all_goals
   go_returns
   exact ⟨ret_bl RR.out.symm, bl⟩
 case true =>
 have HOK := hide hok
 clear hok
 obtain ⟨bE, hbE⟩ : ∃ bE, ascB t = bE := ⟨_, rfl⟩
 have HEA := hide hbE
 clear hbE
 go_upto_region 8 with (go_at_call 73; refine (specNewCset_any _ _ HTS.out).mono ?_; rintro e w3 ⟨rfl, hb3⟩; rw [HOK.out]; (have hz3 := hb3.sz; obtain ⟨hk3_0, hf3_0, hl3_0, hn3_0⟩ := hb3.lay (w.heap.size); obtain ⟨hk3_1, hf3_1, hl3_1, hn3_1⟩ := hb3.lay (w.heap.size + 1)))
 go_cut [119] from 19 (fun v wx => v = .bool (!bE) ∧ Bel ((w.alloc (.cells #[.slice A0 m0 c0, .slice A1 m1 c1, .slice A2 m2 c2, .int .i64 mn] 38)).alloc (.cells #[.int .i64 3, .int .i64 op, .int .i64 n, .int .i64 li, .string t, .slice A ks.length c] 53)) wx)
 case first => as_aux_lemma =>
  by_cases hcs : csText (nsLo t) (nsHi t) = t
  case pos => as_aux_lemma =>
   obtain rfl : true = bE := by rw [← HEA.out, ← HAC.out, HOK.out, decide_eq_true hcs]; rfl
   have hq1 : ((csText (nsLo t) (nsHi t)).toList == t.toList) = true := by rw [hcs]; simp
   have hq2 : ((csText (nsLo t) (nsHi t)).toList != t.toList) = false := by rw [hcs]; simp
   clear hcs
   go_region_held3 (fun w' => w'.cell? ⟨w.heap.size + 1, 4, none⟩ = some (.string t) ∧ w'.cell? ⟨w3.heap.size, 0, none⟩ = some (.int .i64 (nsLo t)) ∧ w'.cell? ⟨w3.heap.size, 1, none⟩ = some (.int .i64 (nsHi t))) (go_keep) (first | (go_at_call 74; refine (specCsetText_any _ _ _).mono ?_; rintro e w4 ⟨rfl, hb4⟩; (have hz4 := hb4.sz; obtain ⟨hk4_0, hf4_0, hl4_0, hn4_0⟩ := hb4.lay (w.heap.size); obtain ⟨hk4_1, hf4_1, hl4_1, hn4_1⟩ := hb4.lay (w.heap.size + 1); obtain ⟨hk4_2, hf4_2, hl4_2, hn4_2⟩ := hb4.lay (w3.heap.size))))
   go_wp2_with (fail)
   all_goals go_meet
   all_goals exact ⟨rfl, bl⟩
  case neg => as_aux_lemma =>
   obtain rfl : false = bE := by rw [← HEA.out, ← HAC.out, HOK.out, decide_eq_false hcs]; rfl
   have hq1 : ((csText (nsLo t) (nsHi t)).toList == t.toList) = false := by rw [beq_eq_false_iff_ne]; exact fun h => hcs ((ba_eq _ _).1 h)
   have hq2 : ((csText (nsLo t) (nsHi t)).toList != t.toList) = true := by rw [bne_iff_ne]; exact fun h => hcs ((ba_eq _ _).1 h)
   clear hcs
   go_region_held3 (fun w' => w'.cell? ⟨w.heap.size + 1, 4, none⟩ = some (.string t) ∧ w'.cell? ⟨w3.heap.size, 0, none⟩ = some (.int .i64 (nsLo t)) ∧ w'.cell? ⟨w3.heap.size, 1, none⟩ = some (.int .i64 (nsHi t))) (go_keep) (first | (go_at_call 74; refine (specCsetText_any _ _ _).mono ?_; rintro e w4 ⟨rfl, hb4⟩; (have hz4 := hb4.sz; obtain ⟨hk4_0, hf4_0, hl4_0, hn4_0⟩ := hb4.lay (w.heap.size); obtain ⟨hk4_1, hf4_1, hl4_1, hn4_1⟩ := hb4.lay (w.heap.size + 1); obtain ⟨hk4_2, hf4_2, hl4_2, hn4_2⟩ := hb4.lay (w3.heap.size))))
   go_wp2_with (fail)
   all_goals go_meet
   all_goals exact ⟨rfl, bl⟩
 case rest =>
 obtain ⟨rfl, hbk⟩ := hcut
 clear hz0 x0 x1 hl0 hl1 hn0 hn1
 have hz0 := hbk.size
 simp only [World.size_alloc] at hz0
 have x0 := hbk.box w.heap.size (by simp; omega)
 have x1 := hbk.box (w.heap.size + 1) (by simp)
 have hl0 : w.heap.size < wc.heap.size := by omega
 have hl1 : w.heap.size + 1 < wc.heap.size := by omega
 have hn0 : ¬ w.heap.size = wc.heap.size := by omega
 have hn1 : ¬ w.heap.size + 1 = wc.heap.size := by omega
 cases bE
 case false => as_aux_lemma =>
  have RR := hide (show (decide (deep + ((TCore.mk 3 op n li t ks).dep : Int) ≤ 401) && (TCore.mk 3 op n li t ks).vld sl m2 m0 m1 loop made) = false from vld_no (by rw [show txtOk 3 t = ascB t by unfold txtOk; simp, HEA.out]; simp))
  go_wp2_with (fail)
  all_goals
   go_returns
   exact ⟨ret_bl RR.out.symm, bl⟩
 case true =>
 have HTX := hide (show txtOk 3 t = true by rw [show txtOk 3 t = ascB t by unfold txtOk; simp]; exact HEA.out)
 obtain ⟨bC, hbC⟩ : ∃ bC, ctxOk 3 loop made = bC := ⟨_, rfl⟩
 have HC := hide hbC
 clear hbC
 go_upto_region 10 with (fail)
 go_cut [144] from 19 (fun v wx => v = .bool (!bC) ∧ Bel ((w.alloc (.cells #[.slice A0 m0 c0, .slice A1 m1 c1, .slice A2 m2 c2, .int .i64 mn] 38)).alloc (.cells #[.int .i64 3, .int .i64 op, .int .i64 n, .int .i64 li, .string t, .slice A ks.length c] 53)) wx)
 case first => as_aux_lemma =>
  obtain rfl : true = bC := by rw [← HC.out]; unfold ctxOk; simp
  go_wp2_with (fail)
  all_goals go_meet
  all_goals exact ⟨rfl, bl⟩
 case rest =>
 obtain ⟨rfl, hbe⟩ := hcut
 clear hz0 x0 x1 hl0 hl1 hn0 hn1
 have hz0 := hbe.size
 simp only [World.size_alloc] at hz0
 have x0 := hbe.box w.heap.size (by simp; omega)
 have x1 := hbe.box (w.heap.size + 1) (by simp)
 have hl0 : w.heap.size < wc.heap.size := by omega
 have hl1 : w.heap.size + 1 < wc.heap.size := by omega
 have hn0 : ¬ w.heap.size = wc.heap.size := by omega
 have hn1 : ¬ w.heap.size + 1 = wc.heap.size := by omega
 cases bC
 case false => as_aux_lemma =>
  have RR := hide (show (decide (deep + ((TCore.mk 3 op n li t ks).dep : Int) ≤ 401) && (TCore.mk 3 op n li t ks).vld sl m2 m0 m1 loop made) = false from vld_no (by rw [HC.out]; simp))
  go_wp2_with (fail)
  all_goals
   go_returns
   exact ⟨ret_bl RR.out.symm, bl⟩
 case true =>
 have HKO := hide (show kidsOk op ks = true by have := HOP.out; unfold opOk at this; simp at this; subst this; unfold kidsOk; simp)
 obtain ⟨bD, hbD⟩ : ∃ bD, kidsOk op ks = bD := ⟨_, rfl⟩
 have HDK := hide hbD
 clear hbD
 go_upto_region 12 with (fail)
 go_cut [195] from 19 (fun v wx => v = .bool (!bD) ∧ Bel ((w.alloc (.cells #[.slice A0 m0 c0, .slice A1 m1 c1, .slice A2 m2 c2, .int .i64 mn] 38)).alloc (.cells #[.int .i64 3, .int .i64 op, .int .i64 n, .int .i64 li, .string t, .slice A ks.length c] 53)) wx)
 case first => as_aux_lemma =>
  obtain rfl : true = bD := HKO.out.symm.trans HDK.out
  go_wp2_with (fail)
  all_goals go_meet
  all_goals exact ⟨rfl, bl⟩
 case rest =>
 obtain ⟨rfl, hbf⟩ := hcut
 clear hz0 x0 x1 hl0 hl1 hn0 hn1
 have hz0 := hbf.size
 simp only [World.size_alloc] at hz0
 have x0 := hbf.box w.heap.size (by simp; omega)
 have x1 := hbf.box (w.heap.size + 1) (by simp)
 have hl0 : w.heap.size < wc.heap.size := by omega
 have hl1 : w.heap.size + 1 < wc.heap.size := by omega
 have hn0 : ¬ w.heap.size = wc.heap.size := by omega
 have hn1 : ¬ w.heap.size + 1 = wc.heap.size := by omega
 cases bD
 case false => as_aux_lemma =>
  have RR := hide (show (decide (deep + ((TCore.mk 3 op n li t ks).dep : Int) ≤ 401) && (TCore.mk 3 op n li t ks).vld sl m2 m0 m1 loop made) = false from vld_no (by rw [HDK.out]; simp))
  go_wp2_with (fail)
  all_goals
   go_returns
   exact ⟨ret_bl RR.out.symm, bl⟩
 case true =>
 have HALL := hide (show (hdOk 3 op li ks.length && numOk sl m2 m0 m1 3 n && opOk 3 op && txtOk 3 t && ctxOk 3 loop made && kidsOk op ks) = true by rw [HHD.out, HNU.out, HOP.out, HTX.out, HC.out, HDK.out]; rfl)
 go_wp2_with (fail)
 have HWC := hide hbf
 clear hz0 x0 x1 hl0 hl1 hn0 hn1
 go_loopw [17] (fun v wr => ∃ m : Nat, v = .int .i64 m ∧ m ≤ ks.length ∧ Hid (∀ j (hj : j < ks.length), j < m → (decide (deep + 1 + (ks[j].dep : Int) ≤ 401) && ks[j].vld sl m2 m0 m1 (innerB (3 : Int) j loop) (made || decide ((3 : Int) = 26))) = true) ∧ Bel ((w.alloc (.cells #[.slice A0 m0 c0, .slice A1 m1 c1, .slice A2 m2 c2, .int .i64 mn] 38)).alloc (.cells #[.int .i64 3, .int .i64 op, .int .i64 n, .int .i64 li, .string t, .slice A ks.length c] 53)) wr) (fun v _ => ks.length - (intOf v).toNat)
 case atStart => exact ⟨0, rfl, by omega, fun j _ hj => by omega, bl⟩
 case round => as_aux_lemma =>
  obtain ⟨m, rfl, hm, hK, hbx⟩ := hrel
  have hz0 := hbx.size
  simp only [World.size_alloc] at hz0
  have x0 := hbx.box w.heap.size (by simp; omega)
  have x1 := hbx.box (w.heap.size + 1) (by simp)
  have hq0 : ¬ w.heap.size = wr.heap.size := by omega
  have hq1 : ¬ w.heap.size + 1 = wr.heap.size := by omega
  by_cases h1 : m < ks.length
  case neg => as_aux_lemma =>
   have hd : decide ((m : Int) < (ks.length : Int)) = false := by simp; omega
   have RR := hide (vld_yes (sl := sl) (gl := m2) (ro := m0) (re := m1) (k := 3) (op := op) (n := n) (li := li) (t := t) (loop := loop) (made := made) HDP.out HALL.out (fun j hj => hK.out j hj (by omega)))
   go_wp2_with (fail)
   all_goals
    go_returns
    exact ⟨ret_bl RR.out.symm, bl⟩
  case pos =>
  have hd : decide ((m : Int) < (ks.length : Int)) = true := by simp; omega
  have hwd : IntKind.i64.wrap (deep + 1) = deep + 1 := by rw [IntKind.wrap_i64]; have := HDP.out; omega
  obtain ⟨bI, hbI⟩ : ∃ bI, (loop && !decide ((3 : Int) = 20 ∨ (3 : Int) = 26)) = bI := ⟨_, rfl⟩
  have HI := hide hbI
  clear hbI
  go_upto_region 17 with (fail)
  go_cut [18] from 196 to 241 (fun v wx => v = .bool bI ∧ Bel ((w.alloc (.cells #[.slice A0 m0 c0, .slice A1 m1 c1, .slice A2 m2 c2, .int .i64 mn] 38)).alloc (.cells #[.int .i64 3, .int .i64 op, .int .i64 n, .int .i64 li, .string t, .slice A ks.length c] 53)) wx)
  case first => as_aux_lemma =>
   cases loop
   case false => as_aux_lemma =>
    obtain rfl : false = bI := by rw [← HI.out]; simp
    go_wp2_with (fail)
    all_goals go_meet
    all_goals exact ⟨rfl, bl⟩
   case true => as_aux_lemma =>
    obtain rfl : true = bI := by rw [← HI.out]; simp
    go_wp2_with (fail)
    all_goals go_meet
    all_goals exact ⟨rfl, bl⟩
  case rest =>
  obtain ⟨rfl, hbg⟩ := hcut
  clear hz0 x0 x1 hq0 hq1
  have hz0 := hbg.size
  simp only [World.size_alloc] at hz0
  have x0 := hbg.box w.heap.size (by simp; omega)
  have x1 := hbg.box (w.heap.size + 1) (by simp)
  have hq0 : ¬ w.heap.size = wc.heap.size := by omega
  have hq1 : ¬ w.heap.size + 1 = wc.heap.size := by omega
  have HIN := hide (show innerB (3 : Int) m loop = bI by rw [← HI.out]; unfold innerB; simp)
  have hbw : Bel w wc := bl
  (obtain ⟨b1, o1, x1_0, x1_1, x1_2, x1_3, x1_4, x1_5, A1_5, C1_5, hA1, hS1, hl1, hx1, hv1, g1_0, g1_1, g1_2, g1_3, g1_4, g1_5, c1_0, c1_1, c1_2, c1_3, c1_4, c1_5⟩ := TCore.at HR.out m h1; subst hA1; have HV1 := hide (Dat.HoldVals.bel hbw hv1); have hh1 := hbw.box b1 hl1; have hw1 := Nat.lt_of_lt_of_le hl1 (Bel.size hbw); replace c1_0 := (hh1 _).trans c1_0; replace c1_1 := (hh1 _).trans c1_1; replace c1_2 := (hh1 _).trans c1_2; replace c1_3 := (hh1 _).trans c1_3; replace c1_4 := (hh1 _).trans c1_4; replace c1_5 := (hh1 _).trans c1_5; have HX1 := hide hx1; have GR1_5 := hide g1_5; clear hh1 hv1 hx1 hS1 g1_5)
  have hne1 : ¬ b1 = wc.heap.size := by omega
  obtain ⟨bK, hbK⟩ : ∃ bK, (decide (deep + 1 + (ks[m].dep : Int) ≤ 401) && ks[m].vld sl m2 m0 m1 bI (made || decide ((3 : Int) = 26))) = bK := ⟨_, rfl⟩
  have HKB := hide hbK
  clear hbK
  have HKM := hide (show (decide (deep + 1 + (ks[m].dep : Int) ≤ 401) && ks[m].vld sl m2 m0 m1 (innerB (3 : Int) m loop) (made || decide ((3 : Int) = 26))) = bK by rw [HIN.out]; exact HKB.out)
  go_upto_region 20 with (fail)
  go_cut [241] from 196 to 241 (fun v wx => v = .bool (!bK) ∧ Bel ((w.alloc (.cells #[.slice A0 m0 c0, .slice A1 m1 c1, .slice A2 m2 c2, .int .i64 mn] 38)).alloc (.cells #[.int .i64 3, .int .i64 op, .int .i64 n, .int .i64 li, .string t, .slice (some ⟨b1, o1, none⟩) ks.length c] 53)) wx)
  case first => as_aux_lemma =>
   have hl0 : w.heap.size < wc.heap.size := by omega
   have hl1 : w.heap.size + 1 < wc.heap.size := by omega
   have hb1w : b1 < wc.heap.size := by omega
   have p0_0 : wc.cell? ⟨w.heap.size, 0, none⟩ = some (.slice A0 m0 c0) := (x0 0).trans (by simp)
   have p0_1 : wc.cell? ⟨w.heap.size, 1, none⟩ = some (.slice A1 m1 c1) := (x0 1).trans (by simp)
   have p0_2 : wc.cell? ⟨w.heap.size, 2, none⟩ = some (.slice A2 m2 c2) := (x0 2).trans (by simp)
   have p0_3 : wc.cell? ⟨w.heap.size, 3, none⟩ = some (.int .i64 mn) := (x0 3).trans (by simp)
   have p1_0 : wc.cell? ⟨w.heap.size + 1, 0, none⟩ = some (.int .i64 3) := (x1 0).trans (by simp)
   have p1_5 : wc.cell? ⟨w.heap.size + 1, 5, none⟩ = some (.slice (some ⟨b1, o1, none⟩) ks.length c) := (x1 5).trans (by simp)
   cases made
   case false => as_aux_lemma =>
    have HMK := hide (show (false || decide ((3 : Int) = 26)) = false by simp)
    have HKV := hide (show (decide (deep + 1 + (ks[m].dep : Int) ≤ 401) && ks[m].vld sl m2 m0 m1 bI false) = bK by rw [← HMK.out]; exact HKB.out)
    refine wp_region_held_drew (S := fun w' => w'.cell? ⟨w.heap.size, 0, none⟩ = some (.slice A0 m0 c0) ∧ w'.cell? ⟨w.heap.size, 1, none⟩ = some (.slice A1 m1 c1) ∧ w'.cell? ⟨w.heap.size, 2, none⟩ = some (.slice A2 m2 c2) ∧ w'.cell? ⟨w.heap.size, 3, none⟩ = some (.int .i64 mn) ∧ w'.cell? ⟨w.heap.size + 1, 0, none⟩ = some (.int .i64 3) ∧ w'.cell? ⟨w.heap.size + 1, 5, none⟩ = some (.slice (some ⟨b1, o1, none⟩) ks.length c) ∧ w'.cell? ⟨b1, o1 + m * 6, none⟩ = some (.int .i64 x1_0) ∧ w'.cell? ⟨b1, o1 + m * 6 + 1, none⟩ = some (.int .i64 x1_1) ∧ w'.cell? ⟨b1, o1 + m * 6 + 2, none⟩ = some (.int .i64 x1_2) ∧ w'.cell? ⟨b1, o1 + m * 6 + 3, none⟩ = some (.int .i64 x1_3) ∧ w'.cell? ⟨b1, o1 + m * 6 + 4, none⟩ = some (.string x1_4) ∧ w'.cell? ⟨b1, o1 + m * 6 + 5, none⟩ = some (.slice A1_5 x1_5.length C1_5)) (by kernel_rfl) ?_ (fun hHeld => ?_)
    ·
     exact ⟨(Bel.box (W := wc) bl w.heap.size hl0 _).trans p0_0, (Bel.box (W := wc) bl w.heap.size hl0 _).trans p0_1, (Bel.box (W := wc) bl w.heap.size hl0 _).trans p0_2, (Bel.box (W := wc) bl w.heap.size hl0 _).trans p0_3, (Bel.box (W := wc) bl (w.heap.size + 1) hl1 _).trans p1_0, (Bel.box (W := wc) bl (w.heap.size + 1) hl1 _).trans p1_5, (Bel.box (W := wc) bl b1 hb1w _).trans c1_0, (Bel.box (W := wc) bl b1 hb1w _).trans c1_1, (Bel.box (W := wc) bl b1 hb1w _).trans c1_2, (Bel.box (W := wc) bl b1 hb1w _).trans c1_3, (Bel.box (W := wc) bl b1 hb1w _).trans c1_4, (Bel.box (W := wc) bl b1 hb1w _).trans c1_5⟩
    refine tkI 0 ?_
    refine tkI 1 ?_
    refine tkI 2 ?_
    refine tkI 3 ?_
    refine tkI 4 ?_
    refine tkI 5 ?_
    refine tkI 6 ?_
    refine tkI 7 ?_
    refine tkI 8 ?_
    refine tkI 9 ?_
    refine tkI 10 ?_
    refine tkI 11 ?_
    refine tkI 12 ?_
    refine tkI 13 ?_
    refine tkI 14 ?_
    refine tkI 15 ?_
    refine wpAnyH_ready (rs := [16]) (by kernel_rfl) (by simp) ?_
    refine AllReadyH.cons (o := _) rfl (fun K hK => ?_) AllReadyH.nil
    go_simp
    clear hHeld
    (go_at_call 46; (with_reducible refine (IH'.out m h1 S _ _ _ _ _ _ _ _ _ _ _ _ _ _ _ _ (Dat.HoldVals.bel bl HV1.out) HM0.out HM1.out HM2.out HS0.out HS1.out (by omega) (by have := HDP.out; omega)).mono ?_); rintro e w3 ⟨rfl, hb3⟩; rw [HKV.out])
    refine hK.out _ _ ?_ (fun hHeld => ?_)
    ·
     exact ⟨(Bel.box (W := wc) bl w.heap.size hl0 _).trans p0_0, (Bel.box (W := wc) bl w.heap.size hl0 _).trans p0_1, (Bel.box (W := wc) bl w.heap.size hl0 _).trans p0_2, (Bel.box (W := wc) bl w.heap.size hl0 _).trans p0_3, (Bel.box (W := wc) bl (w.heap.size + 1) hl1 _).trans p1_0, (Bel.box (W := wc) bl (w.heap.size + 1) hl1 _).trans p1_5, (Bel.box (W := wc) bl b1 hb1w _).trans c1_0, (Bel.box (W := wc) bl b1 hb1w _).trans c1_1, (Bel.box (W := wc) bl b1 hb1w _).trans c1_2, (Bel.box (W := wc) bl b1 hb1w _).trans c1_3, (Bel.box (W := wc) bl b1 hb1w _).trans c1_4, (Bel.box (W := wc) bl b1 hb1w _).trans c1_5⟩
    clear hK K
    (try simp only [Act.put, List.setIfInBounds_toArray, List.set_cons_zero, List.set_cons_succ, List.getElem_toArray, List.getElem_cons_zero, List.getElem_cons_succ])
    refine tkI 17 ?_
    refine wpAnyH_done (by kernel_rfl) ?_ _
    all_goals (try go_wp2_with (fail))
    all_goals go_meet
    all_goals exact ⟨rfl, bl⟩
   case true => as_aux_lemma =>
    have HMK := hide (show (true || decide ((3 : Int) = 26)) = true by simp)
    have HKV := hide (show (decide (deep + 1 + (ks[m].dep : Int) ≤ 401) && ks[m].vld sl m2 m0 m1 bI true) = bK by rw [← HMK.out]; exact HKB.out)
    refine wp_region_held_drew (S := fun w' => w'.cell? ⟨w.heap.size, 0, none⟩ = some (.slice A0 m0 c0) ∧ w'.cell? ⟨w.heap.size, 1, none⟩ = some (.slice A1 m1 c1) ∧ w'.cell? ⟨w.heap.size, 2, none⟩ = some (.slice A2 m2 c2) ∧ w'.cell? ⟨w.heap.size, 3, none⟩ = some (.int .i64 mn) ∧ w'.cell? ⟨w.heap.size + 1, 0, none⟩ = some (.int .i64 3) ∧ w'.cell? ⟨w.heap.size + 1, 5, none⟩ = some (.slice (some ⟨b1, o1, none⟩) ks.length c) ∧ w'.cell? ⟨b1, o1 + m * 6, none⟩ = some (.int .i64 x1_0) ∧ w'.cell? ⟨b1, o1 + m * 6 + 1, none⟩ = some (.int .i64 x1_1) ∧ w'.cell? ⟨b1, o1 + m * 6 + 2, none⟩ = some (.int .i64 x1_2) ∧ w'.cell? ⟨b1, o1 + m * 6 + 3, none⟩ = some (.int .i64 x1_3) ∧ w'.cell? ⟨b1, o1 + m * 6 + 4, none⟩ = some (.string x1_4) ∧ w'.cell? ⟨b1, o1 + m * 6 + 5, none⟩ = some (.slice A1_5 x1_5.length C1_5)) (by kernel_rfl) ?_ (fun hHeld => ?_)
    ·
     exact ⟨(Bel.box (W := wc) bl w.heap.size hl0 _).trans p0_0, (Bel.box (W := wc) bl w.heap.size hl0 _).trans p0_1, (Bel.box (W := wc) bl w.heap.size hl0 _).trans p0_2, (Bel.box (W := wc) bl w.heap.size hl0 _).trans p0_3, (Bel.box (W := wc) bl (w.heap.size + 1) hl1 _).trans p1_0, (Bel.box (W := wc) bl (w.heap.size + 1) hl1 _).trans p1_5, (Bel.box (W := wc) bl b1 hb1w _).trans c1_0, (Bel.box (W := wc) bl b1 hb1w _).trans c1_1, (Bel.box (W := wc) bl b1 hb1w _).trans c1_2, (Bel.box (W := wc) bl b1 hb1w _).trans c1_3, (Bel.box (W := wc) bl b1 hb1w _).trans c1_4, (Bel.box (W := wc) bl b1 hb1w _).trans c1_5⟩
    refine tkI 0 ?_
    refine tkI 1 ?_
    refine tkI 2 ?_
    refine tkI 3 ?_
    refine tkI 4 ?_
    refine tkI 5 ?_
    refine tkI 6 ?_
    refine tkI 7 ?_
    refine tkI 8 ?_
    refine tkI 9 ?_
    refine tkN 10 ?_
    refine tkN 11 ?_
    refine tkN 12 ?_
    refine tkI 13 ?_
    refine tkI 14 ?_
    refine tkI 15 ?_
    refine wpAnyH_ready (rs := [16]) (by kernel_rfl) (by simp) ?_
    refine AllReadyH.cons (o := _) rfl (fun K hK => ?_) AllReadyH.nil
    go_simp
    clear hHeld
    (go_at_call 46; (with_reducible refine (IH'.out m h1 S _ _ _ _ _ _ _ _ _ _ _ _ _ _ _ _ (Dat.HoldVals.bel bl HV1.out) HM0.out HM1.out HM2.out HS0.out HS1.out (by omega) (by have := HDP.out; omega)).mono ?_); rintro e w3 ⟨rfl, hb3⟩; rw [HKV.out])
    refine hK.out _ _ ?_ (fun hHeld => ?_)
    ·
     exact ⟨(Bel.box (W := wc) bl w.heap.size hl0 _).trans p0_0, (Bel.box (W := wc) bl w.heap.size hl0 _).trans p0_1, (Bel.box (W := wc) bl w.heap.size hl0 _).trans p0_2, (Bel.box (W := wc) bl w.heap.size hl0 _).trans p0_3, (Bel.box (W := wc) bl (w.heap.size + 1) hl1 _).trans p1_0, (Bel.box (W := wc) bl (w.heap.size + 1) hl1 _).trans p1_5, (Bel.box (W := wc) bl b1 hb1w _).trans c1_0, (Bel.box (W := wc) bl b1 hb1w _).trans c1_1, (Bel.box (W := wc) bl b1 hb1w _).trans c1_2, (Bel.box (W := wc) bl b1 hb1w _).trans c1_3, (Bel.box (W := wc) bl b1 hb1w _).trans c1_4, (Bel.box (W := wc) bl b1 hb1w _).trans c1_5⟩
    clear hK K
    (try simp only [Act.put, List.setIfInBounds_toArray, List.set_cons_zero, List.set_cons_succ, List.getElem_toArray, List.getElem_cons_zero, List.getElem_cons_succ])
    refine tkI 17 ?_
    refine wpAnyH_done (by kernel_rfl) ?_ _
    all_goals (try go_wp2_with (fail))
    all_goals go_meet
    all_goals exact ⟨rfl, bl⟩
  case rest =>
   obtain ⟨rfl, hbl⟩ := hcut
   cases bK
   case false => as_aux_lemma =>
    have RR := hide (vld_kid (op := op) (n := n) (li := li) (t := t) m h1 HKM.out)
    go_wp2_with (fail)
    all_goals
     go_returns
     exact ⟨ret_bl RR.out.symm, bl⟩
   case true => as_aux_lemma =>
    go_wp2_with (fail)
    go_roundw
    case rel => exact ⟨m + 1, by go_num, by omega, hide (fun j hj hjm => by
     by_cases e : j = m
     ·
      subst e; exact HKM.out
     ·
      exact hK.out j hj (by omega)), bl⟩
    case measure => simp [intOf]; omega
end Go.Proofs.YtgofbnmablgedaaGreatDoor
