/- Valid patterns, both sides. -/
import Derived.Test.YtdjbfneniohaaaaPP6
import Derived.Test.YtdjbfneniohaaaaPP6o
import Derived.Test.YtdjbfneniohaaaaPP7
import Derived.Test.YtdjbfneniohaaaaPP7o
namespace Go.Proofs.Ytdjbfneniohaaaa
set_option linter.unusedVariables false
set_option linter.unusedSimpArgs false
set_option maxRecDepth 100000
open Go.RowKit
theorem vld_A {op n lo hi vars : Int} {t : ByteArray} {ks : List TPattern} (h : ¬ nodeA op lo hi t ks.length) : (TPattern.mk op t n lo hi ks).vld vars = false := by simp [TPattern.vld, h]
theorem vld_N {op n lo hi vars : Int} {t : ByteArray} {ks : List TPattern} (h : ¬ nodeN op n vars) : (TPattern.mk op t n lo hi ks).vld vars = false := by simp [TPattern.vld, h]
theorem vld_K {op n lo hi vars : Int} {t : ByteArray} {ks : List TPattern} (h : nodeA op lo hi t ks.length) (h' : nodeN op n vars) : (TPattern.mk op t n lo hi ks).vld vars = TPattern.vlds vars ks := by simp [TPattern.vld, h, h']
set_option maxHeartbeats 400000 in
theorem l18Left_any : ∀ t : TPattern, ∀ (S : Nat → Prop) (w : World) (vs : List Value) (left : Int), Dat.HoldVals w S t.D vs → 0 ≤ left → left ≤ 1000 →
  Calls Try.prog 60 #[.agg vs.toArray, .int .i64 left] w fun e w' => e = .returned (.int .i64 (szL t.cnt left)) ∧ Bel w w' := by
 refine TPattern.ind fun x0 x1 x2 x3 x4 ks IH => ?_
 intro S w vs left hv h0 h1
 obtain ⟨A, c, rfl, -, -, -, -, -, hR⟩ := TPattern.vals hv
 have IH' := hide IH
 have HR := hide hR
 have hlen := hR.1
 have hcm := hR.2.1
 simp only [List.length_map] at hlen
 unfold maxLen at hcm
 clear IH hR hv
 go_enter Try.func60, Try.ntmps60
 go_wp2_with (fail)
 go_loopw [1, 5] (fun lv iv wr => ∃ k : Nat, k ≤ ks.length ∧ iv = .int .i64 k ∧ lv = .int .i64 (szL (1 + TPattern.cnts (ks.take k)) left) ∧ Bel (w.alloc (.cells #[.int .i64 x0, .string x1, .int .i64 x2, .int .i64 x3, .int .i64 x4, .slice A ks.length c] 28)) wr) (fun _ iv _ => ks.length - (intOf iv).toNat)
 case atStart => exact ⟨0, Nat.zero_le _, rfl, by simp [TPattern.cnts, szL]; omega, Bel.refl _⟩
 case round =>
  obtain ⟨k, hk, rfl, rfl, hbx⟩ := hrel
  have p5 : wr.cell? ⟨w.heap.size, 5, none⟩ = some (.slice A ks.length c) := (hbx.box _ (by simp) 5).trans (by simp)
  have hbw : Bel w wr := Bel.trans bl hbx
  rcases Int.lt_or_le left (1 + TPattern.cnts (ks.take k) : Nat) with hq | hq
  ·
   rw [szL_no hq]
   have HQ := hide hq
   clear hq
   have HE : Hid (szL (TPattern.mk x0 x1 x2 x3 x4 ks).cnt left = -1) := szL_no (by have := TPattern.cnts_le ks k; have := HQ.out; simp only [TPattern.cnt]; omega)
   rcases Nat.lt_or_ge k ks.length with hlt | hge
   ·
    have hd : decide ((k : Int) < (ks.length : Int)) = true := by simp; omega
    go_wp2_with (fail)
    go_returns
    exact ⟨ret_i64 HE.out.symm, hbw⟩
   ·
    have hd : decide ((k : Int) < (ks.length : Int)) = false := by simp; omega
    go_wp2_with (fail)
    go_returns
    exact ⟨ret_i64 HE.out.symm, hbw⟩
  ·
   rw [szL_yes (by omega)]
   have hpos : 0 ≤ left - ((1 + TPattern.cnts (ks.take k) : Nat) : Int) := by omega
   have hpos' : left - ((1 + TPattern.cnts (ks.take k) : Nat) : Int) ≤ 1000 := by omega
   have hdp : decide (0 ≤ left - ((1 + TPattern.cnts (ks.take k) : Nat) : Int)) = true := by simp only [decide_eq_true_eq]; exact hpos
   rcases Nat.lt_or_ge k ks.length with hlt | hge
   ·
    have hd : decide ((k : Int) < (ks.length : Int)) = true := by simp; omega
    (obtain ⟨b1, o1, x1_0, x1_1, x1_2, x1_3, x1_4, x1_5, A1_5, C1_5, hA1, hS1, hl1, hx1, hv1, g1_0, g1_1, g1_2, g1_3, g1_4, g1_5, c1_0, c1_1, c1_2, c1_3, c1_4, c1_5⟩ := TPattern.at HR.out k hlt; subst hA1; have HV1 := hide (Dat.HoldVals.bel hbw hv1); have hh1 := hbw.box b1 hl1; have hw1 := Nat.lt_of_lt_of_le hl1 (Bel.size hbw); replace c1_0 := (hh1 _).trans c1_0; replace c1_1 := (hh1 _).trans c1_1; replace c1_2 := (hh1 _).trans c1_2; replace c1_3 := (hh1 _).trans c1_3; replace c1_4 := (hh1 _).trans c1_4; replace c1_5 := (hh1 _).trans c1_5; have HX1 := hide hx1; have GR1_5 := hide g1_5; clear hh1 hv1 hx1 hS1 g1_5)
    have HE : Hid (szL ks[k].cnt (left - ((1 + TPattern.cnts (ks.take k) : Nat) : Int)) = szL (1 + TPattern.cnts (ks.take (k + 1))) left) := by
     show _ = _
     rw [TPattern.cnts_take ks k hlt]
     unfold szL
     split <;> split <;> omega
    have HQ := hide hq
    clear hq hdp
    generalize hG : left - ((1 + TPattern.cnts (ks.take k) : Nat) : Int) = G at hpos hpos' HE ⊢
    have HG := hide hG
    clear hG
    have hdp : decide (0 ≤ G) = true := by simp; omega
    go_wp2_with (fail)
    refine (IH'.out k hlt S _ _ _ (Dat.HoldVals.bel bl HV1.out) hpos hpos').mono ?_
    rintro e w1 ⟨rfl, hb1⟩
    rw [HE.out]
    go_wp2_with (fail)
    all_goals
     go_roundw
     case rel => exact ⟨k + 1, by omega, by go_num, rfl, bl⟩
     case measure => simp [intOf]; omega
   ·
    have hd : decide ((k : Int) < (ks.length : Int)) = false := by simp; omega
    have HE : Hid (left - ((1 + TPattern.cnts (ks.take k) : Nat) : Int) = szL (TPattern.mk x0 x1 x2 x3 x4 ks).cnt left) := by
     show _ = _
     rw [List.take_of_length_le (by omega)] at hq ⊢
     simp only [TPattern.cnt]
     rw [szL_yes (by omega)]
    go_wp2_with (fail)
    go_returns
    exact ⟨ret_i64 HE.out, hbw⟩
theorem l18Valid_any (vars : Int) (hvr : 0 ≤ vars ∧ vars ≤ 24) : ∀ t : TPattern, ∀ (S : Nat → Prop) (w : World) (vs : List Value), Dat.HoldVals w S t.D vs →
  Calls Try.prog 61 #[.agg vs.toArray, .int .i64 vars] w fun e w' => e = .returned (.bool (t.vld vars)) ∧ Bel w w' := by
 refine TPattern.ind fun op t n lo hi ks IH => ?_
 intro S w vs hv
 obtain ⟨A, c, rfl, -, -, -, -, -, hR⟩ := TPattern.vals hv
 have hlc := hR.1
 have hc := hR.2.1
 simp only [List.length_map] at hlc
 by_cases h1 : op < 1
 ·
  rw [vld_A (by unfold nodeA; omega)]
  exact l18Valid_lo op t n lo hi vars ks A c S w h1 hc hlc hvr
 by_cases h2 : 23 < op
 ·
  rw [vld_A (by unfold nodeA; omega)]
  exact l18Valid_hi op t n lo hi vars ks A c S w h2 hc hlc hvr
 by_cases hm : ks.length = kidsN op
 case neg =>
  rw [vld_A (by unfold nodeA; omega)]
  exact l18Valid_kids op t n lo hi vars ks A c S w (by omega) (by omega) hm hc hlc hvr
 have hgs : (op = 1) ∨ (2 ≤ op ∧ op ≤ 6) ∨ (7 ≤ op ∧ op ≤ 10) ∨ (op = 16) ∨ (op = 17) ∨ (op = 18) ∨ (op = 20) ∨ (11 ≤ op ∧ op ≤ 15) ∨ (op = 19) ∨ (21 ≤ op ∧ op ≤ 23) := by omega
 rcases hgs with hg | hg | hg | hg | hg | hg | hg | hg | hg | hg
 ·
  by_cases ht0 : t.size ≤ 120
  case neg =>
   rw [vld_A (by unfold nodeA; omega)]
   exact l18Valid_t1 op t n lo hi vars ks A c S w hg hm (by omega) hc hlc hvr
  by_cases hs1 : lo = 0
  case neg =>
   rw [vld_A (by unfold nodeA; omega)]
   exact l18Valid_sa1 op t n lo hi vars ks A c S w hg hm ht0 hs1 hc hlc hvr
  by_cases hs2 : hi = 0
  case neg =>
   rw [vld_A (by unfold nodeA; omega)]
   exact l18Valid_sb1 op t n lo hi vars ks A c S w hg hm ht0 hs1 hs2 hc hlc hvr
  by_cases hn : n = 0
  case neg =>
   rw [vld_N (by unfold nodeN; split <;> (try split) <;> omega)]
   exact l18Valid_n1 op t n lo hi vars ks A c S w hg hm ht0 ⟨hs1, hs2⟩ hn hc hlc hvr
  rw [vld_K (by unfold nodeA; omega) (by unfold nodeN; split <;> (try split) <;> omega)]
  exact l18Valid_ok1 op t n lo hi vars ks A c S w (fun i hi => IH i hi) hR hg hm ht0 ⟨hs1, hs2⟩ hn hc hlc hvr
 ·
  by_cases ht0 : t.size = 0
  case neg =>
   rw [vld_A (by unfold nodeA; omega)]
   exact l18Valid_t2 op t n lo hi vars ks A c S w hg hm ht0 hc hlc hvr
  by_cases hs1 : lo = 0
  case neg =>
   rw [vld_A (by unfold nodeA; omega)]
   exact l18Valid_sa2 op t n lo hi vars ks A c S w hg hm ht0 hs1 hc hlc hvr
  by_cases hs2 : hi = 0
  case neg =>
   rw [vld_A (by unfold nodeA; omega)]
   exact l18Valid_sb2 op t n lo hi vars ks A c S w hg hm ht0 hs1 hs2 hc hlc hvr
  by_cases hn0 : n < 0
  ·
   rw [vld_N (by unfold nodeN; split <;> (try split) <;> omega)]
   exact l18Valid_na2 op t n lo hi vars ks A c S w hg hm ht0 ⟨hs1, hs2⟩ hn0 hc hlc hvr
  by_cases hn : n ≤ 120
  case neg =>
   rw [vld_N (by unfold nodeN; split <;> (try split) <;> omega)]
   exact l18Valid_nb2 op t n lo hi vars ks A c S w hg hm ht0 ⟨hs1, hs2⟩ (by omega) hn hc hlc hvr
  rw [vld_K (by unfold nodeA; omega) (by unfold nodeN; split <;> (try split) <;> omega)]
  exact l18Valid_ok2 op t n lo hi vars ks A c S w (fun i hi => IH i hi) hR hg hm ht0 ⟨hs1, hs2⟩ (by omega) hn hc hlc hvr
 ·
  by_cases ht0 : t.size = 0
  case neg =>
   rw [vld_A (by unfold nodeA; omega)]
   exact l18Valid_t7 op t n lo hi vars ks A c S w hg hm ht0 hc hlc hvr
  by_cases hn : n = 0
  case neg =>
   rw [vld_N (by unfold nodeN; split <;> (try split) <;> omega)]
   exact l18Valid_n7 op t n lo hi vars ks A c S w hg hm ht0 hn hc hlc hvr
  rw [vld_K (by unfold nodeA; omega) (by unfold nodeN; split <;> (try split) <;> omega)]
  exact l18Valid_ok7 op t n lo hi vars ks A c S w (fun i hi => IH i hi) hR hg hm ht0 hn hc hlc hvr
 ·
  by_cases ht0 : t.size = 0
  case neg =>
   rw [vld_A (by unfold nodeA; omega)]
   exact l18Valid_t16 op t n lo hi vars ks A c S w hg hm ht0 hc hlc hvr
  by_cases hs1 : lo = 0
  case neg =>
   rw [vld_A (by unfold nodeA; omega)]
   exact l18Valid_sa16 op t n lo hi vars ks A c S w hg hm ht0 hs1 hc hlc hvr
  by_cases hs2 : hi = 0
  case neg =>
   rw [vld_A (by unfold nodeA; omega)]
   exact l18Valid_sb16 op t n lo hi vars ks A c S w hg hm ht0 hs1 hs2 hc hlc hvr
  by_cases hn0 : n < 0
  ·
   rw [vld_N (by unfold nodeN; split <;> (try split) <;> omega)]
   exact l18Valid_na16 op t n lo hi vars ks A c S w hg hm ht0 ⟨hs1, hs2⟩ hn0 hc hlc hvr
  by_cases hn : n < vars
  case neg =>
   rw [vld_N (by unfold nodeN; split <;> (try split) <;> omega)]
   exact l18Valid_nb16 op t n lo hi vars ks A c S w hg hm ht0 ⟨hs1, hs2⟩ (by omega) hn hc hlc hvr
  rw [vld_K (by unfold nodeA; omega) (by unfold nodeN; split <;> (try split) <;> omega)]
  exact l18Valid_ok16 op t n lo hi vars ks A c S w (fun i hi => IH i hi) hR hg hm ht0 ⟨hs1, hs2⟩ (by omega) hn hc hlc hvr
 ·
  by_cases ht0 : t.size = 0
  case neg =>
   rw [vld_A (by unfold nodeA; omega)]
   exact l18Valid_t17 op t n lo hi vars ks A c S w hg hm ht0 hc hlc hvr
  by_cases hs1 : lo = 0
  case neg =>
   rw [vld_A (by unfold nodeA; omega)]
   exact l18Valid_sa17 op t n lo hi vars ks A c S w hg hm ht0 hs1 hc hlc hvr
  by_cases hs2 : hi = 0
  case neg =>
   rw [vld_A (by unfold nodeA; omega)]
   exact l18Valid_sb17 op t n lo hi vars ks A c S w hg hm ht0 hs1 hs2 hc hlc hvr
  by_cases hn0 : n < 0
  ·
   rw [vld_N (by unfold nodeN; split <;> (try split) <;> omega)]
   exact l18Valid_na17 op t n lo hi vars ks A c S w hg hm ht0 ⟨hs1, hs2⟩ hn0 hc hlc hvr
  by_cases hn : n < vars
  case neg =>
   rw [vld_N (by unfold nodeN; split <;> (try split) <;> omega)]
   exact l18Valid_nb17 op t n lo hi vars ks A c S w hg hm ht0 ⟨hs1, hs2⟩ (by omega) hn hc hlc hvr
  rw [vld_K (by unfold nodeA; omega) (by unfold nodeN; split <;> (try split) <;> omega)]
  exact l18Valid_ok17 op t n lo hi vars ks A c S w (fun i hi => IH i hi) hR hg hm ht0 ⟨hs1, hs2⟩ (by omega) hn hc hlc hvr
 ·
  by_cases ht0 : t.size = 0
  case neg =>
   rw [vld_A (by unfold nodeA; omega)]
   exact l18Valid_t18 op t n lo hi vars ks A c S w hg hm ht0 hc hlc hvr
  by_cases hs1 : lo = 0
  case neg =>
   rw [vld_A (by unfold nodeA; omega)]
   exact l18Valid_sa18 op t n lo hi vars ks A c S w hg hm ht0 hs1 hc hlc hvr
  by_cases hs2 : hi = 0
  case neg =>
   rw [vld_A (by unfold nodeA; omega)]
   exact l18Valid_sb18 op t n lo hi vars ks A c S w hg hm ht0 hs1 hs2 hc hlc hvr
  by_cases hn0 : n < 0
  ·
   rw [vld_N (by unfold nodeN; split <;> (try split) <;> omega)]
   exact l18Valid_na18 op t n lo hi vars ks A c S w hg hm ht0 ⟨hs1, hs2⟩ hn0 hc hlc hvr
  by_cases hn : n < vars
  case neg =>
   rw [vld_N (by unfold nodeN; split <;> (try split) <;> omega)]
   exact l18Valid_nb18 op t n lo hi vars ks A c S w hg hm ht0 ⟨hs1, hs2⟩ (by omega) hn hc hlc hvr
  rw [vld_K (by unfold nodeA; omega) (by unfold nodeN; split <;> (try split) <;> omega)]
  exact l18Valid_ok18 op t n lo hi vars ks A c S w (fun i hi => IH i hi) hR hg hm ht0 ⟨hs1, hs2⟩ (by omega) hn hc hlc hvr
 ·
  by_cases ht0 : t.size = 0
  case neg =>
   rw [vld_A (by unfold nodeA; omega)]
   exact l18Valid_t20 op t n lo hi vars ks A c S w hg hm ht0 hc hlc hvr
  by_cases hs1 : lo = 0
  case neg =>
   rw [vld_A (by unfold nodeA; omega)]
   exact l18Valid_sa20 op t n lo hi vars ks A c S w hg hm ht0 hs1 hc hlc hvr
  by_cases hs2 : hi = 0
  case neg =>
   rw [vld_A (by unfold nodeA; omega)]
   exact l18Valid_sb20 op t n lo hi vars ks A c S w hg hm ht0 hs1 hs2 hc hlc hvr
  by_cases hn0 : n < 0
  ·
   rw [vld_N (by unfold nodeN; split <;> (try split) <;> omega)]
   exact l18Valid_na20 op t n lo hi vars ks A c S w hg hm ht0 ⟨hs1, hs2⟩ hn0 hc hlc hvr
  by_cases hn : n < vars
  case neg =>
   rw [vld_N (by unfold nodeN; split <;> (try split) <;> omega)]
   exact l18Valid_nb20 op t n lo hi vars ks A c S w hg hm ht0 ⟨hs1, hs2⟩ (by omega) hn hc hlc hvr
  rw [vld_K (by unfold nodeA; omega) (by unfold nodeN; split <;> (try split) <;> omega)]
  exact l18Valid_ok20 op t n lo hi vars ks A c S w (fun i hi => IH i hi) hR hg hm ht0 ⟨hs1, hs2⟩ (by omega) hn hc hlc hvr
 ·
  by_cases ht0 : t.size = 0
  case neg =>
   rw [vld_A (by unfold nodeA; omega)]
   exact l18Valid_tx op t n lo hi vars ks A c S w hg hm ht0 hc hlc hvr
  by_cases hs1 : lo = 0
  case neg =>
   rw [vld_A (by unfold nodeA; omega)]
   exact l18Valid_sax op t n lo hi vars ks A c S w hg hm ht0 hs1 hc hlc hvr
  by_cases hs2 : hi = 0
  case neg =>
   rw [vld_A (by unfold nodeA; omega)]
   exact l18Valid_sbx op t n lo hi vars ks A c S w hg hm ht0 hs1 hs2 hc hlc hvr
  by_cases hn : n = 0
  case neg =>
   rw [vld_N (by unfold nodeN; split <;> (try split) <;> omega)]
   exact l18Valid_nx op t n lo hi vars ks A c S w hg hm ht0 ⟨hs1, hs2⟩ hn hc hlc hvr
  rw [vld_K (by unfold nodeA; omega) (by unfold nodeN; split <;> (try split) <;> omega)]
  exact l18Valid_okx op t n lo hi vars ks A c S w (fun i hi => IH i hi) hR hg hm ht0 ⟨hs1, hs2⟩ hn hc hlc hvr
 ·
  by_cases ht0 : t.size = 0
  case neg =>
   rw [vld_A (by unfold nodeA; omega)]
   exact l18Valid_t19 op t n lo hi vars ks A c S w hg hm ht0 hc hlc hvr
  by_cases hs1 : lo = 0
  case neg =>
   rw [vld_A (by unfold nodeA; omega)]
   exact l18Valid_sa19 op t n lo hi vars ks A c S w hg hm ht0 hs1 hc hlc hvr
  by_cases hs2 : hi = 0
  case neg =>
   rw [vld_A (by unfold nodeA; omega)]
   exact l18Valid_sb19 op t n lo hi vars ks A c S w hg hm ht0 hs1 hs2 hc hlc hvr
  by_cases hn : n = 0
  case neg =>
   rw [vld_N (by unfold nodeN; split <;> (try split) <;> omega)]
   exact l18Valid_n19 op t n lo hi vars ks A c S w hg hm ht0 ⟨hs1, hs2⟩ hn hc hlc hvr
  rw [vld_K (by unfold nodeA; omega) (by unfold nodeN; split <;> (try split) <;> omega)]
  exact l18Valid_ok19 op t n lo hi vars ks A c S w (fun i hi => IH i hi) hR hg hm ht0 ⟨hs1, hs2⟩ hn hc hlc hvr
 ·
  by_cases ht0 : t.size = 0
  case neg =>
   rw [vld_A (by unfold nodeA; omega)]
   exact l18Valid_ty op t n lo hi vars ks A c S w hg hm ht0 hc hlc hvr
  by_cases hs1 : lo = 0
  case neg =>
   rw [vld_A (by unfold nodeA; omega)]
   exact l18Valid_say op t n lo hi vars ks A c S w hg hm ht0 hs1 hc hlc hvr
  by_cases hs2 : hi = 0
  case neg =>
   rw [vld_A (by unfold nodeA; omega)]
   exact l18Valid_sby op t n lo hi vars ks A c S w hg hm ht0 hs1 hs2 hc hlc hvr
  by_cases hn : n = 0
  case neg =>
   rw [vld_N (by unfold nodeN; split <;> (try split) <;> omega)]
   exact l18Valid_ny op t n lo hi vars ks A c S w hg hm ht0 ⟨hs1, hs2⟩ hn hc hlc hvr
  rw [vld_K (by unfold nodeA; omega) (by unfold nodeN; split <;> (try split) <;> omega)]
  exact l18Valid_oky op t n lo hi vars ks A c S w (fun i hi => IH i hi) hR hg hm ht0 ⟨hs1, hs2⟩ hn hc hlc hvr
theorem validPattern_any (vars : Int) (hvr : 0 ≤ vars ∧ vars ≤ 24) : ∀ t : TPattern, ∀ (S : Nat → Prop) (w : World) (vs : List Value), Dat.HoldVals w S t.D vs →
  Calls Try.prog 57 #[.agg vs.toArray, .int .i64 vars] w fun e w' => e = .returned (.bool (t.vld vars)) ∧ Bel w w' := by
 refine TPattern.ind fun op t n lo hi ks IH => ?_
 intro S w vs hv
 obtain ⟨A, c, rfl, -, -, -, -, -, hR⟩ := TPattern.vals hv
 have hlc := hR.1
 have hc := hR.2.1
 simp only [List.length_map] at hlc
 by_cases h1 : op < 1
 ·
  rw [vld_A (by unfold nodeA; omega)]
  exact validPattern_lo op t n lo hi vars ks A c S w h1 hc hlc hvr
 by_cases h2 : 23 < op
 ·
  rw [vld_A (by unfold nodeA; omega)]
  exact validPattern_hi op t n lo hi vars ks A c S w h2 hc hlc hvr
 by_cases hm : ks.length = kidsN op
 case neg =>
  rw [vld_A (by unfold nodeA; omega)]
  exact validPattern_kids op t n lo hi vars ks A c S w (by omega) (by omega) hm hc hlc hvr
 have hgs : (op = 1) ∨ (2 ≤ op ∧ op ≤ 6) ∨ (7 ≤ op ∧ op ≤ 10) ∨ (op = 16) ∨ (op = 17) ∨ (op = 18) ∨ (op = 20) ∨ (11 ≤ op ∧ op ≤ 15) ∨ (op = 19) ∨ (21 ≤ op ∧ op ≤ 23) := by omega
 rcases hgs with hg | hg | hg | hg | hg | hg | hg | hg | hg | hg
 ·
  by_cases ht0 : t.size ≤ 120
  case neg =>
   rw [vld_A (by unfold nodeA; omega)]
   exact validPattern_t1 op t n lo hi vars ks A c S w hg hm (by omega) hc hlc hvr
  by_cases hs1 : lo = 0
  case neg =>
   rw [vld_A (by unfold nodeA; omega)]
   exact validPattern_sa1 op t n lo hi vars ks A c S w hg hm ht0 hs1 hc hlc hvr
  by_cases hs2 : hi = 0
  case neg =>
   rw [vld_A (by unfold nodeA; omega)]
   exact validPattern_sb1 op t n lo hi vars ks A c S w hg hm ht0 hs1 hs2 hc hlc hvr
  by_cases hn : n = 0
  case neg =>
   rw [vld_N (by unfold nodeN; split <;> (try split) <;> omega)]
   exact validPattern_n1 op t n lo hi vars ks A c S w hg hm ht0 ⟨hs1, hs2⟩ hn hc hlc hvr
  rw [vld_K (by unfold nodeA; omega) (by unfold nodeN; split <;> (try split) <;> omega)]
  exact validPattern_ok1 op t n lo hi vars ks A c S w (fun i hi => IH i hi) hR hg hm ht0 ⟨hs1, hs2⟩ hn hc hlc hvr
 ·
  by_cases ht0 : t.size = 0
  case neg =>
   rw [vld_A (by unfold nodeA; omega)]
   exact validPattern_t2 op t n lo hi vars ks A c S w hg hm ht0 hc hlc hvr
  by_cases hs1 : lo = 0
  case neg =>
   rw [vld_A (by unfold nodeA; omega)]
   exact validPattern_sa2 op t n lo hi vars ks A c S w hg hm ht0 hs1 hc hlc hvr
  by_cases hs2 : hi = 0
  case neg =>
   rw [vld_A (by unfold nodeA; omega)]
   exact validPattern_sb2 op t n lo hi vars ks A c S w hg hm ht0 hs1 hs2 hc hlc hvr
  by_cases hn0 : n < 0
  ·
   rw [vld_N (by unfold nodeN; split <;> (try split) <;> omega)]
   exact validPattern_na2 op t n lo hi vars ks A c S w hg hm ht0 ⟨hs1, hs2⟩ hn0 hc hlc hvr
  by_cases hn : n ≤ 120
  case neg =>
   rw [vld_N (by unfold nodeN; split <;> (try split) <;> omega)]
   exact validPattern_nb2 op t n lo hi vars ks A c S w hg hm ht0 ⟨hs1, hs2⟩ (by omega) hn hc hlc hvr
  rw [vld_K (by unfold nodeA; omega) (by unfold nodeN; split <;> (try split) <;> omega)]
  by_cases hz : n = 0
  ·
   exact validPattern_ok2z op t n lo hi vars ks A c S w (fun i hi => IH i hi) hR hg hm ht0 ⟨hs1, hs2⟩ (by omega) hn hz hc hlc hvr
  ·
   exact validPattern_ok2n op t n lo hi vars ks A c S w (fun i hi => IH i hi) hR hg hm ht0 ⟨hs1, hs2⟩ (by omega) hn hz hc hlc hvr
 ·
  by_cases ht0 : t.size = 0
  case neg =>
   rw [vld_A (by unfold nodeA; omega)]
   exact validPattern_t7 op t n lo hi vars ks A c S w hg hm ht0 hc hlc hvr
  by_cases hn : n = 0
  case neg =>
   rw [vld_N (by unfold nodeN; split <;> (try split) <;> omega)]
   exact validPattern_n7 op t n lo hi vars ks A c S w hg hm ht0 hn hc hlc hvr
  rw [vld_K (by unfold nodeA; omega) (by unfold nodeN; split <;> (try split) <;> omega)]
  by_cases hz : lo = 0
  ·
   by_cases hy : hi = 0
   ·
    exact validPattern_ok7c op t n lo hi vars ks A c S w (fun i hi => IH i hi) hR hg hm ht0 hn hz hy hc hlc hvr
   ·
    exact validPattern_ok7b op t n lo hi vars ks A c S w (fun i hi => IH i hi) hR hg hm ht0 hn hz hy hc hlc hvr
  ·
   exact validPattern_ok7a op t n lo hi vars ks A c S w (fun i hi => IH i hi) hR hg hm ht0 hn hz hc hlc hvr
 ·
  by_cases ht0 : t.size = 0
  case neg =>
   rw [vld_A (by unfold nodeA; omega)]
   exact validPattern_t16 op t n lo hi vars ks A c S w hg hm ht0 hc hlc hvr
  by_cases hs1 : lo = 0
  case neg =>
   rw [vld_A (by unfold nodeA; omega)]
   exact validPattern_sa16 op t n lo hi vars ks A c S w hg hm ht0 hs1 hc hlc hvr
  by_cases hs2 : hi = 0
  case neg =>
   rw [vld_A (by unfold nodeA; omega)]
   exact validPattern_sb16 op t n lo hi vars ks A c S w hg hm ht0 hs1 hs2 hc hlc hvr
  by_cases hn0 : n < 0
  ·
   rw [vld_N (by unfold nodeN; split <;> (try split) <;> omega)]
   exact validPattern_na16 op t n lo hi vars ks A c S w hg hm ht0 ⟨hs1, hs2⟩ hn0 hc hlc hvr
  by_cases hn : n < vars
  case neg =>
   rw [vld_N (by unfold nodeN; split <;> (try split) <;> omega)]
   exact validPattern_nb16 op t n lo hi vars ks A c S w hg hm ht0 ⟨hs1, hs2⟩ (by omega) hn hc hlc hvr
  rw [vld_K (by unfold nodeA; omega) (by unfold nodeN; split <;> (try split) <;> omega)]
  by_cases hz : n = 0
  ·
   exact validPattern_ok16z op t n lo hi vars ks A c S w (fun i hi => IH i hi) hR hg hm ht0 ⟨hs1, hs2⟩ (by omega) hn hz hc hlc hvr
  ·
   exact validPattern_ok16n op t n lo hi vars ks A c S w (fun i hi => IH i hi) hR hg hm ht0 ⟨hs1, hs2⟩ (by omega) hn hz hc hlc hvr
 ·
  by_cases ht0 : t.size = 0
  case neg =>
   rw [vld_A (by unfold nodeA; omega)]
   exact validPattern_t17 op t n lo hi vars ks A c S w hg hm ht0 hc hlc hvr
  by_cases hs1 : lo = 0
  case neg =>
   rw [vld_A (by unfold nodeA; omega)]
   exact validPattern_sa17 op t n lo hi vars ks A c S w hg hm ht0 hs1 hc hlc hvr
  by_cases hs2 : hi = 0
  case neg =>
   rw [vld_A (by unfold nodeA; omega)]
   exact validPattern_sb17 op t n lo hi vars ks A c S w hg hm ht0 hs1 hs2 hc hlc hvr
  by_cases hn0 : n < 0
  ·
   rw [vld_N (by unfold nodeN; split <;> (try split) <;> omega)]
   exact validPattern_na17 op t n lo hi vars ks A c S w hg hm ht0 ⟨hs1, hs2⟩ hn0 hc hlc hvr
  by_cases hn : n < vars
  case neg =>
   rw [vld_N (by unfold nodeN; split <;> (try split) <;> omega)]
   exact validPattern_nb17 op t n lo hi vars ks A c S w hg hm ht0 ⟨hs1, hs2⟩ (by omega) hn hc hlc hvr
  rw [vld_K (by unfold nodeA; omega) (by unfold nodeN; split <;> (try split) <;> omega)]
  by_cases hz : n = 0
  ·
   exact validPattern_ok17z op t n lo hi vars ks A c S w (fun i hi => IH i hi) hR hg hm ht0 ⟨hs1, hs2⟩ (by omega) hn hz hc hlc hvr
  ·
   exact validPattern_ok17n op t n lo hi vars ks A c S w (fun i hi => IH i hi) hR hg hm ht0 ⟨hs1, hs2⟩ (by omega) hn hz hc hlc hvr
 ·
  by_cases ht0 : t.size = 0
  case neg =>
   rw [vld_A (by unfold nodeA; omega)]
   exact validPattern_t18 op t n lo hi vars ks A c S w hg hm ht0 hc hlc hvr
  by_cases hs1 : lo = 0
  case neg =>
   rw [vld_A (by unfold nodeA; omega)]
   exact validPattern_sa18 op t n lo hi vars ks A c S w hg hm ht0 hs1 hc hlc hvr
  by_cases hs2 : hi = 0
  case neg =>
   rw [vld_A (by unfold nodeA; omega)]
   exact validPattern_sb18 op t n lo hi vars ks A c S w hg hm ht0 hs1 hs2 hc hlc hvr
  by_cases hn0 : n < 0
  ·
   rw [vld_N (by unfold nodeN; split <;> (try split) <;> omega)]
   exact validPattern_na18 op t n lo hi vars ks A c S w hg hm ht0 ⟨hs1, hs2⟩ hn0 hc hlc hvr
  by_cases hn : n < vars
  case neg =>
   rw [vld_N (by unfold nodeN; split <;> (try split) <;> omega)]
   exact validPattern_nb18 op t n lo hi vars ks A c S w hg hm ht0 ⟨hs1, hs2⟩ (by omega) hn hc hlc hvr
  rw [vld_K (by unfold nodeA; omega) (by unfold nodeN; split <;> (try split) <;> omega)]
  by_cases hz : n = 0
  ·
   exact validPattern_ok18z op t n lo hi vars ks A c S w (fun i hi => IH i hi) hR hg hm ht0 ⟨hs1, hs2⟩ (by omega) hn hz hc hlc hvr
  ·
   exact validPattern_ok18n op t n lo hi vars ks A c S w (fun i hi => IH i hi) hR hg hm ht0 ⟨hs1, hs2⟩ (by omega) hn hz hc hlc hvr
 ·
  by_cases ht0 : t.size = 0
  case neg =>
   rw [vld_A (by unfold nodeA; omega)]
   exact validPattern_t20 op t n lo hi vars ks A c S w hg hm ht0 hc hlc hvr
  by_cases hs1 : lo = 0
  case neg =>
   rw [vld_A (by unfold nodeA; omega)]
   exact validPattern_sa20 op t n lo hi vars ks A c S w hg hm ht0 hs1 hc hlc hvr
  by_cases hs2 : hi = 0
  case neg =>
   rw [vld_A (by unfold nodeA; omega)]
   exact validPattern_sb20 op t n lo hi vars ks A c S w hg hm ht0 hs1 hs2 hc hlc hvr
  by_cases hn0 : n < 0
  ·
   rw [vld_N (by unfold nodeN; split <;> (try split) <;> omega)]
   exact validPattern_na20 op t n lo hi vars ks A c S w hg hm ht0 ⟨hs1, hs2⟩ hn0 hc hlc hvr
  by_cases hn : n < vars
  case neg =>
   rw [vld_N (by unfold nodeN; split <;> (try split) <;> omega)]
   exact validPattern_nb20 op t n lo hi vars ks A c S w hg hm ht0 ⟨hs1, hs2⟩ (by omega) hn hc hlc hvr
  rw [vld_K (by unfold nodeA; omega) (by unfold nodeN; split <;> (try split) <;> omega)]
  by_cases hz : n = 0
  ·
   exact validPattern_ok20z op t n lo hi vars ks A c S w (fun i hi => IH i hi) hR hg hm ht0 ⟨hs1, hs2⟩ (by omega) hn hz hc hlc hvr
  ·
   exact validPattern_ok20n op t n lo hi vars ks A c S w (fun i hi => IH i hi) hR hg hm ht0 ⟨hs1, hs2⟩ (by omega) hn hz hc hlc hvr
 ·
  by_cases ht0 : t.size = 0
  case neg =>
   rw [vld_A (by unfold nodeA; omega)]
   exact validPattern_tx op t n lo hi vars ks A c S w hg hm ht0 hc hlc hvr
  by_cases hs1 : lo = 0
  case neg =>
   rw [vld_A (by unfold nodeA; omega)]
   exact validPattern_sax op t n lo hi vars ks A c S w hg hm ht0 hs1 hc hlc hvr
  by_cases hs2 : hi = 0
  case neg =>
   rw [vld_A (by unfold nodeA; omega)]
   exact validPattern_sbx op t n lo hi vars ks A c S w hg hm ht0 hs1 hs2 hc hlc hvr
  by_cases hn : n = 0
  case neg =>
   rw [vld_N (by unfold nodeN; split <;> (try split) <;> omega)]
   exact validPattern_nx op t n lo hi vars ks A c S w hg hm ht0 ⟨hs1, hs2⟩ hn hc hlc hvr
  rw [vld_K (by unfold nodeA; omega) (by unfold nodeN; split <;> (try split) <;> omega)]
  exact validPattern_okx op t n lo hi vars ks A c S w (fun i hi => IH i hi) hR hg hm ht0 ⟨hs1, hs2⟩ hn hc hlc hvr
 ·
  by_cases ht0 : t.size = 0
  case neg =>
   rw [vld_A (by unfold nodeA; omega)]
   exact validPattern_t19 op t n lo hi vars ks A c S w hg hm ht0 hc hlc hvr
  by_cases hs1 : lo = 0
  case neg =>
   rw [vld_A (by unfold nodeA; omega)]
   exact validPattern_sa19 op t n lo hi vars ks A c S w hg hm ht0 hs1 hc hlc hvr
  by_cases hs2 : hi = 0
  case neg =>
   rw [vld_A (by unfold nodeA; omega)]
   exact validPattern_sb19 op t n lo hi vars ks A c S w hg hm ht0 hs1 hs2 hc hlc hvr
  by_cases hn : n = 0
  case neg =>
   rw [vld_N (by unfold nodeN; split <;> (try split) <;> omega)]
   exact validPattern_n19 op t n lo hi vars ks A c S w hg hm ht0 ⟨hs1, hs2⟩ hn hc hlc hvr
  rw [vld_K (by unfold nodeA; omega) (by unfold nodeN; split <;> (try split) <;> omega)]
  exact validPattern_ok19 op t n lo hi vars ks A c S w (fun i hi => IH i hi) hR hg hm ht0 ⟨hs1, hs2⟩ hn hc hlc hvr
 ·
  by_cases ht0 : t.size = 0
  case neg =>
   rw [vld_A (by unfold nodeA; omega)]
   exact validPattern_ty op t n lo hi vars ks A c S w hg hm ht0 hc hlc hvr
  by_cases hs1 : lo = 0
  case neg =>
   rw [vld_A (by unfold nodeA; omega)]
   exact validPattern_say op t n lo hi vars ks A c S w hg hm ht0 hs1 hc hlc hvr
  by_cases hs2 : hi = 0
  case neg =>
   rw [vld_A (by unfold nodeA; omega)]
   exact validPattern_sby op t n lo hi vars ks A c S w hg hm ht0 hs1 hs2 hc hlc hvr
  by_cases hn : n = 0
  case neg =>
   rw [vld_N (by unfold nodeN; split <;> (try split) <;> omega)]
   exact validPattern_ny op t n lo hi vars ks A c S w hg hm ht0 ⟨hs1, hs2⟩ hn hc hlc hvr
  rw [vld_K (by unfold nodeA; omega) (by unfold nodeN; split <;> (try split) <;> omega)]
  exact validPattern_oky op t n lo hi vars ks A c S w (fun i hi => IH i hi) hR hg hm ht0 ⟨hs1, hs2⟩ hn hc hlc hvr
end Go.Proofs.Ytdjbfneniohaaaa
