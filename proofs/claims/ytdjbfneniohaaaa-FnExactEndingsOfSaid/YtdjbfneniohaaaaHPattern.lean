/- The laws' helpers of Pattern: what is left behind a datum, copies, comparison. -/
import Derived.Test.YtdjbfneniohaaaaHb
namespace Go.Proofs.Ytdjbfneniohaaaa
set_option linter.unusedVariables false
set_option linter.unusedSimpArgs false
set_option maxRecDepth 100000
open Go.RowKit

def SzPattern (t : TPattern) : Prop := ∀ (S : Nat → Prop) (w : World) (vs : List Value) (left : Int), Dat.HoldVals w S t.D vs → 0 ≤ left → left ≤ 1048576 →
  Calls Try.prog 17 #[.agg vs.toArray, .int .i64 left] w fun e w' => e = .returned (.int .i64 (szL (Dat.wtL t.D) left)) ∧ Bel w w'
set_option maxHeartbeats 400000 in
theorem szPatternS_of (ks : List TPattern) (IH : ∀ (i : Nat) (hi : i < ks.length), SzPattern ks[i]) (S : Nat → Prop) (w : World) (A : Option Addr) (c : Nat) (left : Int) (hR : Row w S 6 A c (ks.map TPattern.D)) (h0 : 0 ≤ left) (h1 : left ≤ 1048576) :
    Calls Try.prog 16 #[.slice A ks.length c, .int .i64 left] w fun e w' => e = .returned (.int .i64 (szL (ks.length + Dat.wtR (ks.map TPattern.D)) left)) ∧ Bel w w' := by
  have IH' := hide IH
  have HR := hide hR
  have hlen := hR.1
  have hcm := hR.2.1
  simp only [List.length_map] at hlen
  unfold maxLen at hcm
  clear IH hR
  rcases Int.lt_or_le left ks.length with hn | hn
  · go_enter Try.func16, Try.ntmps16
    go_wp2_with (fail)
    all_goals
      go_returns
      exact ⟨ret_i64 (by rw [szL_no (by omega)]), bl⟩
  go_enter Try.func16, Try.ntmps16
  go_wp2_with (fail)
  go_loopw [1, 5] (fun lv iv wr => ∃ k : Nat, k ≤ ks.length ∧ iv = .int .i64 k ∧ lv = .int .i64 (left - ks.length - (Dat.wtR ((ks.map TPattern.D).take k) : Nat)) ∧ 0 ≤ left - ks.length - (Dat.wtR ((ks.map TPattern.D).take k) : Nat) ∧ Bel w wr) (fun _ iv _ => ks.length - (intOf iv).toNat)
  case atStart => exact ⟨0, Nat.zero_le _, rfl, by simp [Dat.wtR], by simp [Dat.wtR]; omega, Bel.refl _⟩
  case round =>
    obtain ⟨k, hk, rfl, rfl, hl0, hbw⟩ := hrel
    rcases Nat.lt_or_ge k ks.length with hlt | hge
    · have hd : decide ((k : Int) < (ks.length : Int)) = true := by simp; omega
      (obtain ⟨b1, o1, x1_0, x1_1, x1_2, x1_3, x1_4, x1_5, A1_5, C1_5, hA1, hS1, hl1, hx1, hv1, g1_0, g1_1, g1_2, g1_3, g1_4, g1_5, c1_0, c1_1, c1_2, c1_3, c1_4, c1_5⟩ := TPattern.at HR.out k hlt; subst hA1; have HV1 := hide (Dat.HoldVals.bel hbw hv1); have hh1 := hbw.box b1 hl1; have hw1 := Nat.lt_of_lt_of_le hl1 (Bel.size hbw); replace c1_0 := (hh1 _).trans c1_0; replace c1_1 := (hh1 _).trans c1_1; replace c1_2 := (hh1 _).trans c1_2; replace c1_3 := (hh1 _).trans c1_3; replace c1_4 := (hh1 _).trans c1_4; replace c1_5 := (hh1 _).trans c1_5; have HX1 := hide hx1; have GR1_5 := hide g1_5; clear hh1 hv1 hx1 hS1 g1_5)
      have e1 := hide (Dat.wtR_take (ks.map TPattern.D) k (by simpa using hlt))
      have e2 := hide (Dat.wtR_le (ks.map TPattern.D) (k + 1))
      have hl1 : left - ks.length - (Dat.wtR ((ks.map TPattern.D).take k) : Nat) ≤ 1048576 := by omega
      rcases Int.lt_or_le (left - ks.length - (Dat.wtR ((ks.map TPattern.D).take k) : Nat)) (Dat.wtL ks[k].D) with hq | hq
      · have HZ := hide (szL_no hq)
        have HQ := hide hq
        clear hq
        go_wp2_with (fail)
        refine (IH'.out k hlt S _ _ _ (Dat.HoldVals.bel bl HV1.out) hl0 hl1).mono ?_
        rintro e w1 ⟨rfl, hb1⟩
        rw [HZ.out]
        go_wp2_with (fail)
        all_goals
          go_returns
          have e1 := e1.out
          have e2 := e2.out
          have hq := HQ.out
          rw [List.getElem_map] at e1
          exact ⟨ret_i64 (by rw [szL_no (by omega)]), bl⟩
      · have HZ := hide (szL_yes (show ¬ left - ks.length - (Dat.wtR ((ks.map TPattern.D).take k) : Nat) < (Dat.wtL ks[k].D : Nat) by omega))
        go_wp2_with (fail)
        refine (IH'.out k hlt S _ _ _ (Dat.HoldVals.bel bl HV1.out) hl0 hl1).mono ?_
        rintro e w1 ⟨rfl, hb1⟩
        rw [HZ.out]
        go_wp2_with (fail)
        all_goals
          go_roundw
          case rel => exact ⟨k + 1, by omega, by go_num, by have e1 := e1.out; rw [List.getElem_map] at e1; rw [e1]; go_num, by have e1 := e1.out; rw [List.getElem_map] at e1; rw [e1]; omega, bl⟩
          case measure => simp [intOf]; omega
    · have hd : decide ((k : Int) < (ks.length : Int)) = false := by simp; omega
      go_wp2_with (fail)
      go_returns
      rw [List.take_of_length_le (by simp; omega)] at hl0 ⊢
      exact ⟨ret_i64 (by rw [szL_yes (by omega)]; omega), hbw⟩

def ToPattern (t : TPattern) : Prop := ∀ (S : Nat → Prop) (w : World) (vs : List Value), Dat.HoldVals w S t.D vs → Dat.wtL t.D ≤ 1048576 →
  Calls Try.prog 19 #[.agg vs.toArray] w (MadeV w t.D)
set_option maxHeartbeats 400000 in
theorem toPatternS_of (ks : List TPattern) (IH : ∀ (i : Nat) (hi : i < ks.length), ToPattern ks[i]) (S : Nat → Prop) (w : World) (A : Option Addr) (c : Nat) (hR : Row w S 6 A c (ks.map TPattern.D)) (hwt : ks.length + Dat.wtR (ks.map TPattern.D) ≤ 1048576) :
    Calls Try.prog 18 #[.slice A ks.length c] w (MadeR w 6 (ks.map TPattern.D)) := by
  have IH' := hide IH
  have HR := hide hR
  have hlen := hR.1
  have hcm := hR.2.1
  simp only [List.length_map] at hlen
  unfold maxLen at hcm
  clear IH hR
  obtain ⟨cur, hcur, hmk⟩ := make_rows (P := Try.prog) (t := 24) (e := 28) (k := 6) ks.length (by omega) Try.underlying24 (by kernel_rfl)
  have HC := hide hcur
  clear hcur
  have HW := hide hwt
  clear hwt
  go_enter Try.func18, Try.ntmps18
  go_wp2_with (fail)
  have HM := hide (Bel.refl (w.alloc (.cells cur 28)))
  have HF := hide (Fill.start w 28 6 ks.length (fun b => w.heap.size < b) HC.out)
  clear hmk
  go_loopw [4] (fun iv wr => ∃ k : Nat, k ≤ ks.length ∧ iv = .int .i64 k ∧ Fill wr w.heap.size 28 6 ks.length (fun b => w.heap.size < b) ((ks.map TPattern.D).take k) ∧ Bel w wr) (fun iv _ => ks.length - (intOf iv).toNat)
  case atStart => exact ⟨0, Nat.zero_le _, rfl, HF.out, bl⟩
  case round =>
    obtain ⟨k, hk, rfl, hF, hbw⟩ := hrel
    have HF1 := hide hF
    have hgl := hF.lt
    clear hF HF
    rcases Nat.lt_or_ge k ks.length with hlt | hge
    · have hd : decide ((k : Int) < (ks.length : Int)) = true := by simp; omega
      have hi0 : 0 ≤ (k : Int) := by omega
      have hi1 : (k : Int) < (ks.length : Int) := by omega
      (obtain ⟨b1, o1, x1_0, x1_1, x1_2, x1_3, x1_4, x1_5, A1_5, C1_5, hA1, hS1, hl1, hx1, hv1, g1_0, g1_1, g1_2, g1_3, g1_4, g1_5, c1_0, c1_1, c1_2, c1_3, c1_4, c1_5⟩ := TPattern.at HR.out k hlt; subst hA1; have HV1 := hide (Dat.HoldVals.bel hbw hv1); have hh1 := hbw.box b1 hl1; have hw1 := Nat.lt_of_lt_of_le hl1 (Bel.size hbw); replace c1_0 := (hh1 _).trans c1_0; replace c1_1 := (hh1 _).trans c1_1; replace c1_2 := (hh1 _).trans c1_2; replace c1_3 := (hh1 _).trans c1_3; replace c1_4 := (hh1 _).trans c1_4; replace c1_5 := (hh1 _).trans c1_5; have HX1 := hide hx1; have GR1_5 := hide g1_5; clear hh1 hv1 hx1 hS1 g1_5)
      have hw := hide (Dat.wtR_take (ks.map TPattern.D) k (by simpa using hlt))
      have hw' := hide (Dat.wtR_le (ks.map TPattern.D) (k + 1))
      have hwk : Dat.wtL ks[k].D ≤ 1048576 := by have a := hw.out; have b := hw'.out; have c := HW.out; rw [List.getElem_map] at a; omega
      go_wp2_with (fail)
      refine (IH'.out k hlt S _ _ (Dat.HoldVals.bel bl HV1.out) hwk).mono ?_
      rintro e w1 ⟨vs', rfl, hv', hb1⟩
      have HV' := hide hv'
      rw [HX1.out] at hv'
      obtain ⟨A5, c5, rfl, -⟩ := TPattern.vals hv'
      clear hv'
      have HF2 := hide (Fill.bel HF1.out hb1)
      obtain ⟨y0, e0⟩ := HF2.out.cell (i := k * 6) (by omega)
      obtain ⟨y1, e1⟩ := HF2.out.cell (i := k * 6 + 1) (by omega)
      obtain ⟨y2, e2⟩ := HF2.out.cell (i := k * 6 + 2) (by omega)
      obtain ⟨y3, e3⟩ := HF2.out.cell (i := k * 6 + 3) (by omega)
      obtain ⟨y4, e4⟩ := HF2.out.cell (i := k * 6 + 4) (by omega)
      obtain ⟨y5, e5⟩ := HF2.out.cell (i := k * 6 + 5) (by omega)
      have f0 := HF2.out.free (k * 6)
      have f1 := HF2.out.free (k * 6 + 1)
      have f2 := HF2.out.free (k * 6 + 2)
      have f3 := HF2.out.free (k * 6 + 3)
      have f4 := HF2.out.free (k * 6 + 4)
      have f5 := HF2.out.free (k * 6 + 5)
      go_wp2_with (fail)
      go_roundw
      case rel =>
       exact ⟨k + 1, by omega, by go_num, Fill.snoc6 HF2.out hlt rfl (fun b hb => by omega) HV'.out (fun b hb => by omega), bl⟩
      case measure => simp [intOf]; omega
    · have hd : decide ((k : Int) < (ks.length : Int)) = false := by simp; omega
      go_wp2_with (fail)
      go_returns
      exact ⟨some ⟨w.heap.size, 0, none⟩, ks.length, by rw [List.length_map]; rfl, Fill.done HF1.out hge rfl (by unfold maxLen; omega) (fun b hb => by omega) (by omega), hbw⟩

def EqPattern (t : TPattern) : Prop := ∀ (S S' : Nat → Prop) (w : World) (vs vs' : List Value), Dat.HoldVals w S t.D vs → Dat.HoldVals w S' t.D vs' →
  Calls Try.prog 22 #[.agg vs.toArray, .agg vs'.toArray] w fun e w' => e = .returned (.bool true) ∧ Bel w w'
set_option maxHeartbeats 400000 in
theorem eqPatternS_of (ks : List TPattern) (IH : ∀ (i : Nat) (hi : i < ks.length), EqPattern ks[i]) (S S' : Nat → Prop) (w : World) (A A' : Option Addr) (c c' : Nat) (hR : Row w S 6 A c (ks.map TPattern.D)) (hR' : Row w S' 6 A' c' (ks.map TPattern.D)) :
    Calls Try.prog 21 #[.slice A ks.length c, .slice A' ks.length c'] w fun e w' => e = .returned (.bool true) ∧ Bel w w' := by
  have IH' := hide IH
  have HR := hide hR
  have HR' := hide hR'
  have hlen := hR.1
  have hcm := hR.2.1
  have hlen' := hR'.1
  have hcm' := hR'.2.1
  simp only [List.length_map] at hlen hlen'
  unfold maxLen at hcm hcm'
  clear IH hR hR'
  go_enter Try.func21, Try.ntmps21
  go_wp2_with (fail)
  go_loopw [5] (fun iv wr => ∃ k : Nat, k ≤ ks.length ∧ iv = .int .i64 k ∧ Bel w wr) (fun iv _ => ks.length - (intOf iv).toNat)
  case atStart => exact ⟨0, Nat.zero_le _, rfl, Bel.refl _⟩
  case round =>
    obtain ⟨k, hk, rfl, hbw⟩ := hrel
    rcases Nat.lt_or_ge k ks.length with hlt | hge
    · have hd : decide ((k : Int) < (ks.length : Int)) = true := by simp; omega
      have hi0 : 0 ≤ (k : Int) := by omega
      have hi1 : (k : Int) < (ks.length : Int) := by omega
      (obtain ⟨b1, o1, x1_0, x1_1, x1_2, x1_3, x1_4, x1_5, A1_5, C1_5, hA1, hS1, hl1, hx1, hv1, g1_0, g1_1, g1_2, g1_3, g1_4, g1_5, c1_0, c1_1, c1_2, c1_3, c1_4, c1_5⟩ := TPattern.at HR.out k hlt; subst hA1; have HV1 := hide (Dat.HoldVals.bel hbw hv1); have hh1 := hbw.box b1 hl1; have hw1 := Nat.lt_of_lt_of_le hl1 (Bel.size hbw); replace c1_0 := (hh1 _).trans c1_0; replace c1_1 := (hh1 _).trans c1_1; replace c1_2 := (hh1 _).trans c1_2; replace c1_3 := (hh1 _).trans c1_3; replace c1_4 := (hh1 _).trans c1_4; replace c1_5 := (hh1 _).trans c1_5; have HX1 := hide hx1; have GR1_5 := hide g1_5; clear hh1 hv1 hx1 hS1 g1_5)
      (obtain ⟨b2, o2, x2_0, x2_1, x2_2, x2_3, x2_4, x2_5, A2_5, C2_5, hA2, hS2, hl2, hx2, hv2, g2_0, g2_1, g2_2, g2_3, g2_4, g2_5, c2_0, c2_1, c2_2, c2_3, c2_4, c2_5⟩ := TPattern.at HR'.out k hlt; subst hA2; have HV2 := hide (Dat.HoldVals.bel hbw hv2); have hh2 := hbw.box b2 hl2; have hw2 := Nat.lt_of_lt_of_le hl2 (Bel.size hbw); replace c2_0 := (hh2 _).trans c2_0; replace c2_1 := (hh2 _).trans c2_1; replace c2_2 := (hh2 _).trans c2_2; replace c2_3 := (hh2 _).trans c2_3; replace c2_4 := (hh2 _).trans c2_4; replace c2_5 := (hh2 _).trans c2_5; have HX2 := hide hx2; have GR2_5 := hide g2_5; clear hh2 hv2 hx2 hS2 g2_5)
      have HY := hide (HX1.out.symm.trans HX2.out)
      go_wp2_with (fail)
      go_region_held3 (fun w' => w'.cell? ⟨b1, o1 + k * 6, none⟩ = some (.int .i64 x1_0) ∧ w'.cell? ⟨b1, o1 + k * 6 + 1, none⟩ = some (.string x1_1) ∧ w'.cell? ⟨b1, o1 + k * 6 + 2, none⟩ = some (.int .i64 x1_2) ∧ w'.cell? ⟨b1, o1 + k * 6 + 3, none⟩ = some (.int .i64 x1_3) ∧ w'.cell? ⟨b1, o1 + k * 6 + 4, none⟩ = some (.int .i64 x1_4) ∧ w'.cell? ⟨b1, o1 + k * 6 + 5, none⟩ = some (.slice A1_5 x1_5.length C1_5) ∧ w'.cell? ⟨b2, o2 + k * 6, none⟩ = some (.int .i64 x2_0) ∧ w'.cell? ⟨b2, o2 + k * 6 + 1, none⟩ = some (.string x2_1) ∧ w'.cell? ⟨b2, o2 + k * 6 + 2, none⟩ = some (.int .i64 x2_2) ∧ w'.cell? ⟨b2, o2 + k * 6 + 3, none⟩ = some (.int .i64 x2_3) ∧ w'.cell? ⟨b2, o2 + k * 6 + 4, none⟩ = some (.int .i64 x2_4) ∧ w'.cell? ⟨b2, o2 + k * 6 + 5, none⟩ = some (.slice A2_5 x2_5.length C2_5)) (go_keep) (first | (go_at_call 22; refine (IH'.out k hlt S S' _ _ _ (Dat.HoldVals.bel bl HV1.out) (Dat.HoldVals.bel bl HV2.out)).mono ?_; rintro e w1 ⟨rfl, hb1⟩; have hq1 := hb1.box b1 (by simp; omega); have hq2 := hb1.box b2 (by simp; omega); simp only [World.cell?_drew] at hq1 hq2))
      all_goals
        go_wp2_with (fail)
        go_roundw
        case rel => exact ⟨k + 1, by omega, by go_num, bl⟩
        case measure => simp [intOf]; omega
    · have hd : decide ((k : Int) < (ks.length : Int)) = false := by simp; omega
      go_wp2_with (fail)
      go_returns
      exact ⟨rfl, hbw⟩

set_option maxHeartbeats 1000000 in
theorem szPattern_any : ∀ t : TPattern, SzPattern t := by
  refine TPattern.ind fun x0 x1 x2 x3 x4 x5 IH => ?_
  intro S w vs left hv h0 h1
  obtain ⟨A5, c5, rfl, g0, g1, g2, g3, g4, hR5⟩ := TPattern.vals hv
  have R5 := hide hR5
  have IH' := hide IH
  clear IH hv hR5
  unfold maxLen at g1
  go_enter Try.func17, Try.ntmps17
  go_wp2_with (first
    | (go_at_call 16; (with_reducible refine (szPatternS_of x5 IH'.out S _ _ _ _ (Row.bel bl R5.out) (by omega) (by omega)).mono ?_); rintro e w1 ⟨rfl, hb1⟩; have hz1 := hb1.sz; obtain ⟨hk1_0, hf1_0, hl1_0, hn1_0⟩ := hb1.lay (w.heap.size); (try simp only [VVal.val])))
  all_goals
    go_returns
    refine ⟨?_, bl⟩
    rw [TPattern.D_mk]
    simp_all [szL, Dat.wtL, Dat.wt]
    try omega
set_option maxHeartbeats 1000000 in
theorem toPattern_any : ∀ t : TPattern, ToPattern t := by
  refine TPattern.ind fun x0 x1 x2 x3 x4 x5 IH => ?_
  intro S w vs hv hwt
  obtain ⟨A5, c5, rfl, g0, g1, g2, g3, g4, hR5⟩ := TPattern.vals hv
  have R5 := hide hR5
  have IH' := hide IH
  have HW := hide hwt
  rw [TPattern.D_mk] at hwt
  simp only [Dat.wtL, Dat.wt, List.length_map] at hwt
  have hw5 : x5.length + Dat.wtR (x5.map TPattern.D) ≤ 1048576 := by omega
  clear IH hv hwt hR5
  unfold maxLen at g1
  go_enter Try.func19, Try.ntmps19
  go_wp2_with (fail)
  refine (toCset_flat x3 x4 _).mono ?_
  rintro e w1 ⟨rfl, hb1⟩
  (have hz1 := hb1.sz; obtain ⟨hk1_0, hf1_0, hl1_0, hn1_0⟩ := hb1.lay (w.heap.size); obtain ⟨hk1_1, hf1_1, hl1_1, hn1_1⟩ := hb1.lay (w.heap.size + 1); obtain ⟨hk1_2, hf1_2, hl1_2, hn1_2⟩ := hb1.lay (w.heap.size + 1 + 1))
  go_wp2_with (fail)
  refine (toPatternS_of x5 IH'.out S _ _ _ (Row.bel bl R5.out) hw5).mono ?_
  rintro e w2 ⟨B5, d5, rfl, hQ5, hb2⟩
  (have hz2 := hb2.sz; obtain ⟨hk2_0, hf2_0, hl2_0, hn2_0⟩ := hb2.lay (w.heap.size); obtain ⟨hk2_1, hf2_1, hl2_1, hn2_1⟩ := hb2.lay (w.heap.size + 1); obtain ⟨hk2_2, hf2_2, hl2_2, hn2_2⟩ := hb2.lay (w.heap.size + 1 + 1))
  have Q5 := hide (Row.wide (S' := fun b => w.heap.size + 2 < b) (fun b hb => by simp at hb; omega) hQ5)
  clear hQ5
  go_wp2_with (fail)
  exact bodyPost_ret (v := .agg #[.int .i64 x0, .string x1, .int .i64 x2, .int .i64 x3, .int .i64 x4, .slice B5 x5.length d5]) (by simp [results, Try.results19, go_sem, hk1_1, hf1_1, hk2_1, hf2_1]) rfl
    ⟨[.int .i64 x0, .string x1, .int .i64 x2, .int .i64 x3, .int .i64 x4, .slice B5 x5.length d5], rfl, TPattern.vals_mk g0 g1 g2 g3 g4 (Row.wide (fun b hb => by omega) (Row.off ofl Q5.out)), bl⟩
set_option maxHeartbeats 1000000 in
theorem eqPattern_any : ∀ t : TPattern, EqPattern t := by
  refine TPattern.ind fun x0 x1 x2 x3 x4 x5 IH => ?_
  intro S S' w vs vs' hv hv'
  obtain ⟨A5, c5, rfl, g0, g1, g2, g3, g4, hR5⟩ := TPattern.vals hv
  obtain ⟨eA5, ec5, rfl, -, -, -, -, -, ehR5⟩ := TPattern.vals hv'
  have R5 := hide hR5
  have T5 := hide ehR5
  have IH' := hide IH
  clear IH hv hv' hR5 ehR5
  unfold maxLen at g1
  go_enter Try.func22, Try.ntmps22
  go_wp2_with (first
    | (go_at_call 40; (with_reducible refine (eqCset_same x3 x4 _).mono ?_); rintro e w1 ⟨rfl, hb1⟩; have hz1 := hb1.sz; obtain ⟨hk1_0, hf1_0, hl1_0, hn1_0⟩ := hb1.lay (w.heap.size); obtain ⟨hk1_1, hf1_1, hl1_1, hn1_1⟩ := hb1.lay (w.heap.size + 1); (try simp only [VVal.val]))
    | (go_at_call 21; (with_reducible refine (eqPatternS_of x5 IH'.out S S' _ _ _ _ _ (Row.bel bl R5.out) (Row.bel bl T5.out)).mono ?_); rintro e w2 ⟨rfl, hb2⟩; have hz2 := hb2.sz; obtain ⟨hk2_0, hf2_0, hl2_0, hn2_0⟩ := hb2.lay (w.heap.size); obtain ⟨hk2_1, hf2_1, hl2_1, hn2_1⟩ := hb2.lay (w.heap.size + 1); (try simp only [VVal.val])))
  all_goals
    go_returns
    exact ⟨rfl, bl⟩
end Go.Proofs.Ytdjbfneniohaaaa
