/- The laws' helpers of Expr: what is left behind a datum, copies, comparison. -/
import Derived.Test.YtjodcciloflgbaaDoorPD
import Derived.Test.YtjodcciloflgbaaDoorPTV
namespace Go.Proofs.YtjodcciloflgbaaDoor
set_option linter.unusedVariables false
set_option linter.unusedSimpArgs false
set_option maxRecDepth 100000
open Go.RowKit
def SzExpr (t : TExpr) : Prop := ∀ (S : Nat → Prop) (w : World) (vs : List Value) (left : Int), Dat.HoldVals w S t.D vs → 0 ≤ left → left ≤ 1048576 →
 Calls Tryd.prog 63 #[.agg vs.toArray, .int .i64 left] w fun e w' => e = .returned (.int .i64 (szL (Dat.wtL t.D) left)) ∧ Bel w w'
set_option maxHeartbeats 400000 in
theorem szExprS_of (ks : List TExpr) (IH : ∀ (i : Nat) (hi : i < ks.length), SzExpr ks[i]) (S : Nat → Prop) (w : World) (A : Option Addr) (c : Nat) (left : Int) (hR : Row w S 5 A c (ks.map TExpr.D)) (h0 : 0 ≤ left) (h1 : left ≤ 1048576) :
  Calls Tryd.prog 78 #[.slice A ks.length c, .int .i64 left] w fun e w' => e = .returned (.int .i64 (szL (ks.length + Dat.wtR (ks.map TExpr.D)) left)) ∧ Bel w w' := by
 have IH' := hide IH
 have HR := hide hR
 have hlen := hR.1
 have hcm := hR.2.1
 simp only [List.length_map] at hlen
 unfold maxLen at hcm
 clear IH hR
 rcases Int.lt_or_le left ks.length with hn | hn
 ·
  go_enter Tryd.func78, Tryd.ntmps78
  go_wp2_with (fail)
  all_goals
   go_returns
   exact ⟨ret_i64 (by rw [szL_no (by omega)]), bl⟩
 go_enter Tryd.func78, Tryd.ntmps78
 go_wp2_with (fail)
 go_loopw [1, 5] (fun lv iv wr => ∃ k : Nat, k ≤ ks.length ∧ iv = .int .i64 k ∧ lv = .int .i64 (left - ks.length - (Dat.wtR ((ks.map TExpr.D).take k) : Nat)) ∧ 0 ≤ left - ks.length - (Dat.wtR ((ks.map TExpr.D).take k) : Nat) ∧ Bel w wr) (fun _ iv _ => ks.length - (intOf iv).toNat)
 case atStart => exact ⟨0, Nat.zero_le _, rfl, by simp [Dat.wtR], by simp [Dat.wtR]; omega, Bel.refl _⟩
 case round =>
  obtain ⟨k, hk, rfl, rfl, hl0, hbw⟩ := hrel
  rcases Nat.lt_or_ge k ks.length with hlt | hge
  ·
   have hd : decide ((k : Int) < (ks.length : Int)) = true := by simp; omega
   (obtain ⟨b1, o1, x1_0, x1_1, x1_2, x1_3, x1_4, A1_4, C1_4, hA1, hS1, hl1, hx1, hv1, g1_0, g1_1, g1_2, g1_3, g1_4, c1_0, c1_1, c1_2, c1_3, c1_4⟩ := TExpr.at HR.out k hlt; subst hA1; have HV1 := hide (Dat.HoldVals.bel hbw hv1); have hh1 := hbw.box b1 hl1; have hw1 := Nat.lt_of_lt_of_le hl1 (Bel.size hbw); replace c1_0 := (hh1 _).trans c1_0; replace c1_1 := (hh1 _).trans c1_1; replace c1_2 := (hh1 _).trans c1_2; replace c1_3 := (hh1 _).trans c1_3; replace c1_4 := (hh1 _).trans c1_4; have HX1 := hide hx1; have GR1_4 := hide g1_4; clear hh1 hv1 hx1 hS1 g1_4)
   have e1 := hide (Dat.wtR_take (ks.map TExpr.D) k (by simpa using hlt))
   have e2 := hide (Dat.wtR_le (ks.map TExpr.D) (k + 1))
   have hl1 : left - ks.length - (Dat.wtR ((ks.map TExpr.D).take k) : Nat) ≤ 1048576 := by omega
   rcases Int.lt_or_le (left - ks.length - (Dat.wtR ((ks.map TExpr.D).take k) : Nat)) (Dat.wtL ks[k].D) with hq | hq
   ·
    have HZ := hide (szL_no hq)
    have HQ := hide hq
    clear hq
    go_wp2_with (fail)
    refine (IH'.out k hlt S _ _ _ (Dat.HoldVals.bel bl HV1.out) hl0 hl1).mono ?_
    rintro e w1 ⟨rfl, hb1⟩
    rw [HZ.out]
    go_wp2_with (fail)
    all_goals
     go_returns
     have e1 := e1.out
     have e2 := e2.out
     have hq := HQ.out
     rw [List.getElem_map] at e1
     exact ⟨ret_i64 (by rw [szL_no (by omega)]), bl⟩
   ·
    have HZ := hide (szL_yes (show ¬ left - ks.length - (Dat.wtR ((ks.map TExpr.D).take k) : Nat) < (Dat.wtL ks[k].D : Nat) by omega))
    go_wp2_with (fail)
    refine (IH'.out k hlt S _ _ _ (Dat.HoldVals.bel bl HV1.out) hl0 hl1).mono ?_
    rintro e w1 ⟨rfl, hb1⟩
    rw [HZ.out]
    go_wp2_with (fail)
    all_goals
     go_roundw
     case rel => exact ⟨k + 1, by omega, by go_num, by have e1 := e1.out; rw [List.getElem_map] at e1; rw [e1]; go_num, by have e1 := e1.out; rw [List.getElem_map] at e1; rw [e1]; omega, bl⟩
     case measure => simp [intOf]; omega
  ·
   have hd : decide ((k : Int) < (ks.length : Int)) = false := by simp; omega
   go_wp2_with (fail)
   go_returns
   rw [List.take_of_length_le (by simp; omega)] at hl0 ⊢
   exact ⟨ret_i64 (by rw [szL_yes (by omega)]; omega), hbw⟩
def ToExpr (t : TExpr) : Prop := ∀ (S : Nat → Prop) (w : World) (vs : List Value), Dat.HoldVals w S t.D vs → Dat.wtL t.D ≤ 1048576 →
 Calls Tryd.prog 69 #[.agg vs.toArray] w (MadeV w t.D)
set_option maxHeartbeats 400000 in
theorem toExprS_of (ks : List TExpr) (IH : ∀ (i : Nat) (hi : i < ks.length), ToExpr ks[i]) (S : Nat → Prop) (w : World) (A : Option Addr) (c : Nat) (hR : Row w S 5 A c (ks.map TExpr.D)) (hwt : ks.length + Dat.wtR (ks.map TExpr.D) ≤ 1048576) :
    Calls Tryd.prog 82 #[.slice A ks.length c] w (MadeR w 5 (ks.map TExpr.D)) := by
  have IH' := hide IH
  have HR := hide hR
  have hlen := hR.1
  have hcm := hR.2.1
  simp only [List.length_map] at hlen
  unfold maxLen at hcm
  clear IH hR
  obtain ⟨cur, hcur, hmk⟩ := make_rows (P := Tryd.prog) (t := 58) (e := 60) (k := 5) ks.length (by omega) Tryd.underlying58 (by kernel_rfl)
  have HC := hide hcur
  clear hcur
  have HW := hide hwt
  clear hwt
  go_enter Tryd.func82, Tryd.ntmps82
  go_wp2_with (fail)
  have HM := hide (Bel.refl (w.alloc (.cells cur 60)))
  have HF := hide (Fill.start w 60 5 ks.length (fun b => w.heap.size < b) HC.out)
  clear hmk
  go_loopw [4] (fun iv wr => ∃ k : Nat, k ≤ ks.length ∧ iv = .int .i64 k ∧ Fill wr w.heap.size 60 5 ks.length (fun b => w.heap.size < b) ((ks.map TExpr.D).take k) ∧ Bel w wr) (fun iv _ => ks.length - (intOf iv).toNat)
  case atStart => exact ⟨0, Nat.zero_le _, rfl, HF.out, bl⟩
  case round =>
    obtain ⟨k, hk, rfl, hF, hbw⟩ := hrel
    have HF1 := hide hF
    have hgl := hF.lt
    clear hF HF
    rcases Nat.lt_or_ge k ks.length with hlt | hge
    · have hd : decide ((k : Int) < (ks.length : Int)) = true := by simp; omega
      have hi0 : 0 ≤ (k : Int) := by omega
      have hi1 : (k : Int) < (ks.length : Int) := by omega
      (obtain ⟨b1, o1, x1_0, x1_1, x1_2, x1_3, x1_4, A1_4, C1_4, hA1, hS1, hl1, hx1, hv1, g1_0, g1_1, g1_2, g1_3, g1_4, c1_0, c1_1, c1_2, c1_3, c1_4⟩ := TExpr.at HR.out k hlt; subst hA1; have HV1 := hide (Dat.HoldVals.bel hbw hv1); have hh1 := hbw.box b1 hl1; have hw1 := Nat.lt_of_lt_of_le hl1 (Bel.size hbw); replace c1_0 := (hh1 _).trans c1_0; replace c1_1 := (hh1 _).trans c1_1; replace c1_2 := (hh1 _).trans c1_2; replace c1_3 := (hh1 _).trans c1_3; replace c1_4 := (hh1 _).trans c1_4; have HX1 := hide hx1; have GR1_4 := hide g1_4; clear hh1 hv1 hx1 hS1 g1_4)
      have hw := hide (Dat.wtR_take (ks.map TExpr.D) k (by simpa using hlt))
      have hw' := hide (Dat.wtR_le (ks.map TExpr.D) (k + 1))
      have hwk : Dat.wtL ks[k].D ≤ 1048576 := by have a := hw.out; have b := hw'.out; have c := HW.out; rw [List.getElem_map] at a; omega
      go_wp2_with (fail)
      refine (IH'.out k hlt S _ _ (Dat.HoldVals.bel bl HV1.out) hwk).mono ?_
      rintro e w1 ⟨vs', rfl, hv', hb1⟩
      have HV' := hide hv'
      rw [HX1.out] at hv'
      obtain ⟨A4, c4, rfl, -⟩ := TExpr.vals hv'
      clear hv'
      have HF2 := hide (Fill.bel HF1.out hb1)
      obtain ⟨y0, e0⟩ := HF2.out.cell (i := k * 5) (by omega)
      obtain ⟨y1, e1⟩ := HF2.out.cell (i := k * 5 + 1) (by omega)
      obtain ⟨y2, e2⟩ := HF2.out.cell (i := k * 5 + 2) (by omega)
      obtain ⟨y3, e3⟩ := HF2.out.cell (i := k * 5 + 3) (by omega)
      obtain ⟨y4, e4⟩ := HF2.out.cell (i := k * 5 + 4) (by omega)
      have f0 := HF2.out.free (k * 5)
      have f1 := HF2.out.free (k * 5 + 1)
      have f2 := HF2.out.free (k * 5 + 2)
      have f3 := HF2.out.free (k * 5 + 3)
      have f4 := HF2.out.free (k * 5 + 4)
      go_wp2_with (fail)
      go_roundw
      case rel =>
       exact ⟨k + 1, by omega, by go_num, Fill.snoc5 HF2.out hlt rfl (fun b hb => by omega) HV'.out (fun b hb => by omega), bl⟩
      case measure => simp [intOf]; omega
    · have hd : decide ((k : Int) < (ks.length : Int)) = false := by simp; omega
      go_wp2_with (fail)
      go_returns
      exact ⟨some ⟨w.heap.size, 0, none⟩, ks.length, by rw [List.length_map]; rfl, Fill.done HF1.out hge rfl (by unfold maxLen; omega) (fun b hb => by omega) (by omega), hbw⟩
def EqExpr (t : TExpr) : Prop := ∀ (S S' : Nat → Prop) (w : World) (vs vs' : List Value), Dat.HoldVals w S t.D vs → Dat.HoldVals w S' t.D vs' →
 Calls Tryd.prog 77 #[.agg vs.toArray, .agg vs'.toArray] w fun e w' => e = .returned (.bool true) ∧ Bel w w'
set_option maxHeartbeats 400000 in
theorem eqExprS_of (ks : List TExpr) (IH : ∀ (i : Nat) (hi : i < ks.length), EqExpr ks[i]) (S S' : Nat → Prop) (w : World) (A A' : Option Addr) (c c' : Nat) (hR : Row w S 5 A c (ks.map TExpr.D)) (hR' : Row w S' 5 A' c' (ks.map TExpr.D)) :
  Calls Tryd.prog 90 #[.slice A ks.length c, .slice A' ks.length c'] w fun e w' => e = .returned (.bool true) ∧ Bel w w' := by
 have IH' := hide IH
 have HR := hide hR
 have HR' := hide hR'
 have hlen := hR.1
 have hcm := hR.2.1
 have hlen' := hR'.1
 have hcm' := hR'.2.1
 simp only [List.length_map] at hlen hlen'
 unfold maxLen at hcm hcm'
 clear IH hR hR'
 go_enter Tryd.func90, Tryd.ntmps90
 go_wp2_with (fail)
 go_loopw [5] (fun iv wr => ∃ k : Nat, k ≤ ks.length ∧ iv = .int .i64 k ∧ Bel w wr) (fun iv _ => ks.length - (intOf iv).toNat)
 case atStart => exact ⟨0, Nat.zero_le _, rfl, Bel.refl _⟩
 case round =>
  obtain ⟨k, hk, rfl, hbw⟩ := hrel
  rcases Nat.lt_or_ge k ks.length with hlt | hge
  ·
   have hd : decide ((k : Int) < (ks.length : Int)) = true := by simp; omega
   have hi0 : 0 ≤ (k : Int) := by omega
   have hi1 : (k : Int) < (ks.length : Int) := by omega
   (obtain ⟨b1, o1, x1_0, x1_1, x1_2, x1_3, x1_4, A1_4, C1_4, hA1, hS1, hl1, hx1, hv1, g1_0, g1_1, g1_2, g1_3, g1_4, c1_0, c1_1, c1_2, c1_3, c1_4⟩ := TExpr.at HR.out k hlt; subst hA1; have HV1 := hide (Dat.HoldVals.bel hbw hv1); have hh1 := hbw.box b1 hl1; have hw1 := Nat.lt_of_lt_of_le hl1 (Bel.size hbw); replace c1_0 := (hh1 _).trans c1_0; replace c1_1 := (hh1 _).trans c1_1; replace c1_2 := (hh1 _).trans c1_2; replace c1_3 := (hh1 _).trans c1_3; replace c1_4 := (hh1 _).trans c1_4; have HX1 := hide hx1; have GR1_4 := hide g1_4; clear hh1 hv1 hx1 hS1 g1_4)
   (obtain ⟨b2, o2, x2_0, x2_1, x2_2, x2_3, x2_4, A2_4, C2_4, hA2, hS2, hl2, hx2, hv2, g2_0, g2_1, g2_2, g2_3, g2_4, c2_0, c2_1, c2_2, c2_3, c2_4⟩ := TExpr.at HR'.out k hlt; subst hA2; have HV2 := hide (Dat.HoldVals.bel hbw hv2); have hh2 := hbw.box b2 hl2; have hw2 := Nat.lt_of_lt_of_le hl2 (Bel.size hbw); replace c2_0 := (hh2 _).trans c2_0; replace c2_1 := (hh2 _).trans c2_1; replace c2_2 := (hh2 _).trans c2_2; replace c2_3 := (hh2 _).trans c2_3; replace c2_4 := (hh2 _).trans c2_4; have HX2 := hide hx2; have GR2_4 := hide g2_4; clear hh2 hv2 hx2 hS2 g2_4)
   have HY := hide (HX1.out.symm.trans HX2.out)
   go_wp2_with (fail)
   go_region_held3 (fun w' => w'.cell? ⟨b1, o1 + k * 5, none⟩ = some (.int .i64 x1_0) ∧ w'.cell? ⟨b1, o1 + k * 5 + 1, none⟩ = some (.string x1_1) ∧ w'.cell? ⟨b1, o1 + k * 5 + 2, none⟩ = some (.int .i64 x1_2) ∧ w'.cell? ⟨b1, o1 + k * 5 + 3, none⟩ = some (.int .i64 x1_3) ∧ w'.cell? ⟨b1, o1 + k * 5 + 4, none⟩ = some (.slice A1_4 x1_4.length C1_4) ∧ w'.cell? ⟨b2, o2 + k * 5, none⟩ = some (.int .i64 x2_0) ∧ w'.cell? ⟨b2, o2 + k * 5 + 1, none⟩ = some (.string x2_1) ∧ w'.cell? ⟨b2, o2 + k * 5 + 2, none⟩ = some (.int .i64 x2_2) ∧ w'.cell? ⟨b2, o2 + k * 5 + 3, none⟩ = some (.int .i64 x2_3) ∧ w'.cell? ⟨b2, o2 + k * 5 + 4, none⟩ = some (.slice A2_4 x2_4.length C2_4)) (go_keep) (first | (go_at_call 77; refine (IH'.out k hlt S S' _ _ _ (Dat.HoldVals.bel bl HV1.out) (Dat.HoldVals.bel bl HV2.out)).mono ?_; rintro e w1 ⟨rfl, hb1⟩; have hq1 := hb1.box b1 (by simp; omega); have hq2 := hb1.box b2 (by simp; omega); simp only [World.cell?_drew] at hq1 hq2))
   all_goals
    go_wp2_with (fail)
    go_roundw
    case rel => exact ⟨k + 1, by omega, by go_num, bl⟩
    case measure => simp [intOf]; omega
  ·
   have hd : decide ((k : Int) < (ks.length : Int)) = false := by simp; omega
   go_wp2_with (fail)
   go_returns
   exact ⟨rfl, hbw⟩
set_option maxHeartbeats 1000000 in
theorem szExpr_any : ∀ t : TExpr, SzExpr t := by
 refine TExpr.ind fun x0 x1 x2 x3 x4 IH => ?_
 intro S w vs left hv h0 h1
 obtain ⟨A4, c4, rfl, g0, g1, g2, g3, hR4⟩ := TExpr.vals hv
 have R4 := hide hR4
 have IH' := hide IH
 clear IH hv hR4
 have G1 := hide g1
 unfold maxLen at g1
 rw [TExpr.D_mk]
 simp only [Dat.wtL, Dat.wt, List.length_map]
 go_enter Tryd.func63, Tryd.ntmps63
 rcases Int.lt_or_le (left) (x1.size : Int) with hq1 | hq1
 ·
  go_wp2_with (fail)
  all_goals
   go_returns
   exact ⟨ret_i64 (by rw [szL_no (by omega)]), bl⟩
 go_wp2_with (fail)
 refine (Calls.szTwo (szExprS_of x4 IH'.out S _ _ _ _ (Row.bel bl R4.out) (by omega) (by omega))).mono ?_
 rintro e w1 ⟨l1, rfl, hl1, hb1⟩
 (have hz1 := hb1.sz; obtain ⟨hk1_0, hf1_0, hl1_0, hn1_0⟩ := hb1.lay (w.heap.size))
 rcases hl1 with ⟨hq1, rfl⟩ | ⟨hq1, hz1'⟩
 ·
  have HQ1 := hide hq1
  clear hq1
  go_wp2_with (fail)
  all_goals
   go_returns
   have HQ1' := HQ1.out
   exact ⟨ret_i64 (by rw [szL_no (by omega)]), bl⟩
 have HQ1 := hide hq1
 have HL1 := hide hz1'
 have ha1 : 0 ≤ l1 := by omega
 have hc1 : l1 ≤ 1048576 := by omega
 clear hq1 hz1'
 go_wp2_with (fail)
 all_goals
  go_returns
  have HQ1' := HQ1.out
  have HL1' := HL1.out
  exact ⟨ret_i64 (by rw [szL_yes (by omega)]; omega), bl⟩
set_option maxHeartbeats 1000000 in
theorem toExpr_any : ∀ t : TExpr, ToExpr t := by
 refine TExpr.ind fun x0 x1 x2 x3 x4 IH => ?_
 intro S w vs hv hwt
 obtain ⟨A4, c4, rfl, g0, g1, g2, g3, hR4⟩ := TExpr.vals hv
 have R4 := hide hR4
 have IH' := hide IH
 have HW := hide hwt
 rw [TExpr.D_mk] at hwt
 simp only [Dat.wtL, Dat.wt, List.length_map] at hwt
 have hw4 : x4.length + Dat.wtR (x4.map TExpr.D) ≤ 1048576 := by omega
 clear IH hv hwt hR4
 have G1 := hide g1
 unfold maxLen at g1
 go_enter Tryd.func69, Tryd.ntmps69
 go_wp2_with (fail)
 refine (toExprS_of x4 IH'.out S _ _ _ (Row.bel bl R4.out) hw4).mono ?_
 rintro e w1 ⟨B4, d4, rfl, hQ4, hb1⟩
 (have hz1 := hb1.sz; obtain ⟨hk1_0, hf1_0, hl1_0, hn1_0⟩ := hb1.lay (w.heap.size); obtain ⟨hk1_1, hf1_1, hl1_1, hn1_1⟩ := hb1.lay (w.heap.size + 1); obtain ⟨hk1_2, hf1_2, hl1_2, hn1_2⟩ := hb1.lay (w.heap.size + 1 + 1))
 have Q4 := hide (Row.wide (S' := fun b => w.heap.size + 2 < b) (fun b hb => by (try simp at hb); omega) hQ4)
 clear hQ4
 go_wp2_with (fail)
 exact bodyPost_ret (v := .agg #[.int .i64 x0, .string x1, .int .i64 x2, .int .i64 x3, .slice B4 x4.length d4]) (by simp [results, Tryd.results69, go_sem, hk1_1, hf1_1]) rfl
  ⟨[.int .i64 x0, .string x1, .int .i64 x2, .int .i64 x3, .slice B4 x4.length d4], rfl, TExpr.vals_mk g0 g1 g2 g3 (Row.wide (fun b hb => by omega) (Row.off ofl Q4.out)), bl⟩
set_option maxHeartbeats 1000000 in
theorem eqExpr_any : ∀ t : TExpr, EqExpr t := by
 refine TExpr.ind fun x0 x1 x2 x3 x4 IH => ?_
 intro S S' w vs vs' hv hv'
 obtain ⟨A4, c4, rfl, g0, g1, g2, g3, hR4⟩ := TExpr.vals hv
 obtain ⟨eA4, ec4, rfl, -, -, -, -, ehR4⟩ := TExpr.vals hv'
 have R4 := hide hR4
 have T4 := hide ehR4
 have IH' := hide IH
 clear IH hv hv' hR4 ehR4
 have G1 := hide g1
 unfold maxLen at g1
 go_enter Tryd.func77, Tryd.ntmps77
 go_wp2_with (first
  | (go_at_call 90; (with_reducible refine (eqExprS_of x4 IH'.out S S' _ _ _ _ _ (Row.bel bl R4.out) (Row.bel bl T4.out)).mono ?_); rintro e w1 ⟨rfl, hb1⟩; have hz1 := hb1.sz; obtain ⟨hk1_0, hf1_0, hl1_0, hn1_0⟩ := hb1.lay (w.heap.size); obtain ⟨hk1_1, hf1_1, hl1_1, hn1_1⟩ := hb1.lay (w.heap.size + 1); (try simp only [VVal.val])))
 all_goals
  go_returns
  exact ⟨rfl, bl⟩
end Go.Proofs.YtjodcciloflgbaaDoor
