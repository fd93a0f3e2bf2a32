/- The laws' helpers of Core: what is left behind a datum, copies, comparison. -/
import Derived.Test.YtgofbnmablgedaaGreatDoorPD
import Derived.Test.YtgofbnmablgedaaGreatDoorPTV
import Derived.Test.YtgofbnmablgedaaGreatDoorPHStringS
import Derived.Deep.Cut
namespace Go.Proofs.YtgofbnmablgedaaGreatDoor
set_option linter.unusedVariables false
set_option linter.unusedSimpArgs false
set_option maxRecDepth 100000
open Go.RowKit
def SzCore (t : TCore) : Prop := ∀ (S : Nat → Prop) (w : World) (vs : List Value) (left : Int), Dat.HoldVals w S t.D vs → 0 ≤ left → left ≤ 1048576 →
 Calls Tryz.prog 66 #[.agg vs.toArray, .int .i64 left] w fun e w' => e = .returned (.int .i64 (szL (Dat.wtL t.D) left)) ∧ Bel w w'
set_option maxHeartbeats 400000 in
theorem szCoreS_of (ks : List TCore) (IH : ∀ (i : Nat) (hi : i < ks.length), SzCore ks[i]) (S : Nat → Prop) (w : World) (A : Option Addr) (c : Nat) (left : Int) (hR : Row w S 6 A c (ks.map TCore.D)) (h0 : 0 ≤ left) (h1 : left ≤ 1048576) :
  Calls Tryz.prog 86 #[.slice A ks.length c, .int .i64 left] w fun e w' => e = .returned (.int .i64 (szL (ks.length + Dat.wtR (ks.map TCore.D)) left)) ∧ Bel w w' := by
 have IH' := hide IH
 have HR := hide hR
 have hlen := hR.1
 have hcm := hR.2.1
 simp only [List.length_map] at hlen
 unfold maxLen at hcm
 clear IH hR
 rcases Int.lt_or_le left ks.length with hn | hn
 ·
  go_enter Tryz.func86, Tryz.ntmps86
  go_wp2_with (fail)
  all_goals
   go_returns
   exact ⟨ret_i64 (by rw [szL_no (by omega)]), bl⟩
 go_enter Tryz.func86, Tryz.ntmps86
 go_wp2_with (fail)
 go_loopw [1, 5] (fun lv iv wr => ∃ k : Nat, k ≤ ks.length ∧ iv = .int .i64 k ∧ lv = .int .i64 (left - ks.length - (Dat.wtR ((ks.map TCore.D).take k) : Nat)) ∧ 0 ≤ left - ks.length - (Dat.wtR ((ks.map TCore.D).take k) : Nat) ∧ Bel w wr) (fun _ iv _ => ks.length - (intOf iv).toNat)
 case atStart => exact ⟨0, Nat.zero_le _, rfl, by simp [Dat.wtR], by simp [Dat.wtR]; omega, Bel.refl _⟩
 case round =>
  obtain ⟨k, hk, rfl, rfl, hl0, hbw⟩ := hrel
  rcases Nat.lt_or_ge k ks.length with hlt | hge
  ·
   have hd : decide ((k : Int) < (ks.length : Int)) = true := by simp; omega
   (obtain ⟨b1, o1, x1_0, x1_1, x1_2, x1_3, x1_4, x1_5, A1_5, C1_5, hA1, hS1, hl1, hx1, hv1, g1_0, g1_1, g1_2, g1_3, g1_4, g1_5, c1_0, c1_1, c1_2, c1_3, c1_4, c1_5⟩ := TCore.at HR.out k hlt; subst hA1; have HV1 := hide (Dat.HoldVals.bel hbw hv1); have hh1 := hbw.box b1 hl1; have hw1 := Nat.lt_of_lt_of_le hl1 (Bel.size hbw); replace c1_0 := (hh1 _).trans c1_0; replace c1_1 := (hh1 _).trans c1_1; replace c1_2 := (hh1 _).trans c1_2; replace c1_3 := (hh1 _).trans c1_3; replace c1_4 := (hh1 _).trans c1_4; replace c1_5 := (hh1 _).trans c1_5; have HX1 := hide hx1; have GR1_5 := hide g1_5; clear hh1 hv1 hx1 hS1 g1_5)
   have e1 := hide (Dat.wtR_take (ks.map TCore.D) k (by simpa using hlt))
   have e2 := hide (Dat.wtR_le (ks.map TCore.D) (k + 1))
   have hl1 : left - ks.length - (Dat.wtR ((ks.map TCore.D).take k) : Nat) ≤ 1048576 := by omega
   rcases Int.lt_or_le (left - ks.length - (Dat.wtR ((ks.map TCore.D).take k) : Nat)) (Dat.wtL ks[k].D) with hq | hq
   ·
    have HZ := hide (szL_no hq)
    have HQ := hide hq
    clear hq
    go_wp2_with (fail)
    refine (IH'.out k hlt S _ _ _ (Dat.HoldVals.bel bl HV1.out) hl0 hl1).mono ?_
    rintro e w1 ⟨rfl, hb1⟩
    rw [HZ.out]
    go_wp2_with (fail)
    all_goals
     go_returns
     have e1 := e1.out
     have e2 := e2.out
     have hq := HQ.out
     rw [List.getElem_map] at e1
     exact ⟨ret_i64 (by rw [szL_no (by omega)]), bl⟩
   ·
    have HZ := hide (szL_yes (show ¬ left - ks.length - (Dat.wtR ((ks.map TCore.D).take k) : Nat) < (Dat.wtL ks[k].D : Nat) by omega))
    go_wp2_with (fail)
    refine (IH'.out k hlt S _ _ _ (Dat.HoldVals.bel bl HV1.out) hl0 hl1).mono ?_
    rintro e w1 ⟨rfl, hb1⟩
    rw [HZ.out]
    go_wp2_with (fail)
    all_goals
     go_roundw
     case rel => exact ⟨k + 1, by omega, by go_num, by have e1 := e1.out; rw [List.getElem_map] at e1; rw [e1]; go_num, by have e1 := e1.out; rw [List.getElem_map] at e1; rw [e1]; omega, bl⟩
     case measure => simp [intOf]; omega
  ·
   have hd : decide ((k : Int) < (ks.length : Int)) = false := by simp; omega
   go_wp2_with (fail)
   go_returns
   rw [List.take_of_length_le (by simp; omega)] at hl0 ⊢
   exact ⟨ret_i64 (by rw [szL_yes (by omega)]; omega), hbw⟩
def ToCore (t : TCore) : Prop := ∀ (S : Nat → Prop) (w : World) (vs : List Value), Dat.HoldVals w S t.D vs → Dat.wtL t.D ≤ 1048576 →
 Calls Tryz.prog 75 #[.agg vs.toArray] w (MadeV w t.D)
set_option maxHeartbeats 400000 in
theorem toCoreS_of (ks : List TCore) (IH : ∀ (i : Nat) (hi : i < ks.length), ToCore ks[i]) (S : Nat → Prop) (w : World) (A : Option Addr) (c : Nat) (hR : Row w S 6 A c (ks.map TCore.D)) (hwt : ks.length + Dat.wtR (ks.map TCore.D) ≤ 1048576) :
    Calls Tryz.prog 91 #[.slice A ks.length c] w (MadeR w 6 (ks.map TCore.D)) := by
  have IH' := hide IH
  have HR := hide hR
  have hlen := hR.1
  have hcm := hR.2.1
  simp only [List.length_map] at hlen
  unfold maxLen at hcm
  clear IH hR
  obtain ⟨cur, hcur, hmk⟩ := make_rows (P := Tryz.prog) (t := 51) (e := 53) (k := 6) ks.length (by omega) Tryz.underlying51 (by kernel_rfl)
  have HC := hide hcur
  clear hcur
  have HW := hide hwt
  clear hwt
  go_enter Tryz.func91, Tryz.ntmps91
  go_wp2_with (fail)
  have HM := hide (Bel.refl (w.alloc (.cells cur 53)))
  have HF := hide (Fill.start w 53 6 ks.length (fun b => w.heap.size < b) HC.out)
  clear hmk
  go_loopw [4] (fun iv wr => ∃ k : Nat, k ≤ ks.length ∧ iv = .int .i64 k ∧ Fill wr w.heap.size 53 6 ks.length (fun b => w.heap.size < b) ((ks.map TCore.D).take k) ∧ Bel w wr) (fun iv _ => ks.length - (intOf iv).toNat)
  case atStart => exact ⟨0, Nat.zero_le _, rfl, HF.out, bl⟩
  case round =>
    obtain ⟨k, hk, rfl, hF, hbw⟩ := hrel
    have HF1 := hide hF
    have hgl := hF.lt
    clear hF HF
    rcases Nat.lt_or_ge k ks.length with hlt | hge
    · have hd : decide ((k : Int) < (ks.length : Int)) = true := by simp; omega
      have hi0 : 0 ≤ (k : Int) := by omega
      have hi1 : (k : Int) < (ks.length : Int) := by omega
      (obtain ⟨b1, o1, x1_0, x1_1, x1_2, x1_3, x1_4, x1_5, A1_5, C1_5, hA1, hS1, hl1, hx1, hv1, g1_0, g1_1, g1_2, g1_3, g1_4, g1_5, c1_0, c1_1, c1_2, c1_3, c1_4, c1_5⟩ := TCore.at HR.out k hlt; subst hA1; have HV1 := hide (Dat.HoldVals.bel hbw hv1); have hh1 := hbw.box b1 hl1; have hw1 := Nat.lt_of_lt_of_le hl1 (Bel.size hbw); replace c1_0 := (hh1 _).trans c1_0; replace c1_1 := (hh1 _).trans c1_1; replace c1_2 := (hh1 _).trans c1_2; replace c1_3 := (hh1 _).trans c1_3; replace c1_4 := (hh1 _).trans c1_4; replace c1_5 := (hh1 _).trans c1_5; have HX1 := hide hx1; have GR1_5 := hide g1_5; clear hh1 hv1 hx1 hS1 g1_5)
      have hw := hide (Dat.wtR_take (ks.map TCore.D) k (by simpa using hlt))
      have hw' := hide (Dat.wtR_le (ks.map TCore.D) (k + 1))
      have hwk : Dat.wtL ks[k].D ≤ 1048576 := by have a := hw.out; have b := hw'.out; have c := HW.out; rw [List.getElem_map] at a; omega
      go_wp2_with (fail)
      refine (IH'.out k hlt S _ _ (Dat.HoldVals.bel bl HV1.out) hwk).mono ?_
      rintro e w1 ⟨vs', rfl, hv', hb1⟩
      have HV' := hide hv'
      rw [HX1.out] at hv'
      obtain ⟨A5, c5, rfl, -⟩ := TCore.vals hv'
      clear hv'
      have HF2 := hide (Fill.bel HF1.out hb1)
      obtain ⟨y0, e0⟩ := HF2.out.cell (i := k * 6) (by omega)
      obtain ⟨y1, e1⟩ := HF2.out.cell (i := k * 6 + 1) (by omega)
      obtain ⟨y2, e2⟩ := HF2.out.cell (i := k * 6 + 2) (by omega)
      obtain ⟨y3, e3⟩ := HF2.out.cell (i := k * 6 + 3) (by omega)
      obtain ⟨y4, e4⟩ := HF2.out.cell (i := k * 6 + 4) (by omega)
      obtain ⟨y5, e5⟩ := HF2.out.cell (i := k * 6 + 5) (by omega)
      have f0 := HF2.out.free (k * 6)
      have f1 := HF2.out.free (k * 6 + 1)
      have f2 := HF2.out.free (k * 6 + 2)
      have f3 := HF2.out.free (k * 6 + 3)
      have f4 := HF2.out.free (k * 6 + 4)
      have f5 := HF2.out.free (k * 6 + 5)
      go_wp2_with (fail)
      go_roundw
      case rel =>
       exact ⟨k + 1, by omega, by go_num, Fill.snoc6 HF2.out hlt rfl (fun b hb => by omega) HV'.out (fun b hb => by omega), bl⟩
      case measure => simp [intOf]; omega
    · have hd : decide ((k : Int) < (ks.length : Int)) = false := by simp; omega
      go_wp2_with (fail)
      go_returns
      exact ⟨some ⟨w.heap.size, 0, none⟩, ks.length, by rw [List.length_map]; rfl, Fill.done HF1.out hge rfl (by unfold maxLen; omega) (fun b hb => by omega) (by omega), hbw⟩
def EqCore (t : TCore) : Prop := ∀ (S S' : Nat → Prop) (w : World) (vs vs' : List Value), Dat.HoldVals w S t.D vs → Dat.HoldVals w S' t.D vs' →
 Calls Tryz.prog 85 #[.agg vs.toArray, .agg vs'.toArray] w fun e w' => e = .returned (.bool true) ∧ Bel w w'
set_option maxHeartbeats 400000 in
theorem eqCoreS_of (ks : List TCore) (IH : ∀ (i : Nat) (hi : i < ks.length), EqCore ks[i]) (S S' : Nat → Prop) (w : World) (A A' : Option Addr) (c c' : Nat) (hR : Row w S 6 A c (ks.map TCore.D)) (hR' : Row w S' 6 A' c' (ks.map TCore.D)) :
  Calls Tryz.prog 95 #[.slice A ks.length c, .slice A' ks.length c'] w fun e w' => e = .returned (.bool true) ∧ Bel w w' := by
 have IH' := hide IH
 have HR := hide hR
 have HR' := hide hR'
 have hlen := hR.1
 have hcm := hR.2.1
 have hlen' := hR'.1
 have hcm' := hR'.2.1
 simp only [List.length_map] at hlen hlen'
 unfold maxLen at hcm hcm'
 clear IH hR hR'
 go_enter Tryz.func95, Tryz.ntmps95
 go_wp2_with (fail)
 go_loopw [5] (fun iv wr => ∃ k : Nat, k ≤ ks.length ∧ iv = .int .i64 k ∧ Bel w wr) (fun iv _ => ks.length - (intOf iv).toNat)
 case atStart => exact ⟨0, Nat.zero_le _, rfl, Bel.refl _⟩
 case round =>
  obtain ⟨k, hk, rfl, hbw⟩ := hrel
  rcases Nat.lt_or_ge k ks.length with hlt | hge
  ·
   have hd : decide ((k : Int) < (ks.length : Int)) = true := by simp; omega
   have hi0 : 0 ≤ (k : Int) := by omega
   have hi1 : (k : Int) < (ks.length : Int) := by omega
   (obtain ⟨b1, o1, x1_0, x1_1, x1_2, x1_3, x1_4, x1_5, A1_5, C1_5, hA1, hS1, hl1, hx1, hv1, g1_0, g1_1, g1_2, g1_3, g1_4, g1_5, c1_0, c1_1, c1_2, c1_3, c1_4, c1_5⟩ := TCore.at HR.out k hlt; subst hA1; have HV1 := hide (Dat.HoldVals.bel hbw hv1); have hh1 := hbw.box b1 hl1; have hw1 := Nat.lt_of_lt_of_le hl1 (Bel.size hbw); replace c1_0 := (hh1 _).trans c1_0; replace c1_1 := (hh1 _).trans c1_1; replace c1_2 := (hh1 _).trans c1_2; replace c1_3 := (hh1 _).trans c1_3; replace c1_4 := (hh1 _).trans c1_4; replace c1_5 := (hh1 _).trans c1_5; have HX1 := hide hx1; have GR1_5 := hide g1_5; clear hh1 hv1 hx1 hS1 g1_5)
   (obtain ⟨b2, o2, x2_0, x2_1, x2_2, x2_3, x2_4, x2_5, A2_5, C2_5, hA2, hS2, hl2, hx2, hv2, g2_0, g2_1, g2_2, g2_3, g2_4, g2_5, c2_0, c2_1, c2_2, c2_3, c2_4, c2_5⟩ := TCore.at HR'.out k hlt; subst hA2; have HV2 := hide (Dat.HoldVals.bel hbw hv2); have hh2 := hbw.box b2 hl2; have hw2 := Nat.lt_of_lt_of_le hl2 (Bel.size hbw); replace c2_0 := (hh2 _).trans c2_0; replace c2_1 := (hh2 _).trans c2_1; replace c2_2 := (hh2 _).trans c2_2; replace c2_3 := (hh2 _).trans c2_3; replace c2_4 := (hh2 _).trans c2_4; replace c2_5 := (hh2 _).trans c2_5; have HX2 := hide hx2; have GR2_5 := hide g2_5; clear hh2 hv2 hx2 hS2 g2_5)
   have HY := hide (HX1.out.symm.trans HX2.out)
   go_wp2_with (fail)
   go_region_held3 (fun w' => w'.cell? ⟨b1, o1 + k * 6, none⟩ = some (.int .i64 x1_0) ∧ w'.cell? ⟨b1, o1 + k * 6 + 1, none⟩ = some (.int .i64 x1_1) ∧ w'.cell? ⟨b1, o1 + k * 6 + 2, none⟩ = some (.int .i64 x1_2) ∧ w'.cell? ⟨b1, o1 + k * 6 + 3, none⟩ = some (.int .i64 x1_3) ∧ w'.cell? ⟨b1, o1 + k * 6 + 4, none⟩ = some (.string x1_4) ∧ w'.cell? ⟨b1, o1 + k * 6 + 5, none⟩ = some (.slice A1_5 x1_5.length C1_5) ∧ w'.cell? ⟨b2, o2 + k * 6, none⟩ = some (.int .i64 x2_0) ∧ w'.cell? ⟨b2, o2 + k * 6 + 1, none⟩ = some (.int .i64 x2_1) ∧ w'.cell? ⟨b2, o2 + k * 6 + 2, none⟩ = some (.int .i64 x2_2) ∧ w'.cell? ⟨b2, o2 + k * 6 + 3, none⟩ = some (.int .i64 x2_3) ∧ w'.cell? ⟨b2, o2 + k * 6 + 4, none⟩ = some (.string x2_4) ∧ w'.cell? ⟨b2, o2 + k * 6 + 5, none⟩ = some (.slice A2_5 x2_5.length C2_5)) (go_keep) (first | (go_at_call 85; refine (IH'.out k hlt S S' _ _ _ (Dat.HoldVals.bel bl HV1.out) (Dat.HoldVals.bel bl HV2.out)).mono ?_; rintro e w1 ⟨rfl, hb1⟩; have hq1 := hb1.box b1 (by simp; omega); have hq2 := hb1.box b2 (by simp; omega); simp only [World.cell?_drew] at hq1 hq2))
   all_goals
    go_wp2_with (fail)
    go_roundw
    case rel => exact ⟨k + 1, by omega, by go_num, bl⟩
    case measure => simp [intOf]; omega
  ·
   have hd : decide ((k : Int) < (ks.length : Int)) = false := by simp; omega
   go_wp2_with (fail)
   go_returns
   exact ⟨rfl, hbw⟩
set_option maxHeartbeats 1000000 in
theorem szCore_any : ∀ t : TCore, SzCore t := by
 refine TCore.ind fun x0 x1 x2 x3 x4 x5 IH => ?_
 intro S w vs left hv h0 h1
 obtain ⟨A5, c5, rfl, g0, g1, g2, g3, g4, hR5⟩ := TCore.vals hv
 have R5 := hide hR5
 have IH' := hide IH
 clear IH hv hR5
 unfold maxLen at g4
 go_enter Tryz.func66, Tryz.ntmps66
 go_wp2_with (first
  | (go_at_call 86; (with_reducible refine (szCoreS_of x5 IH'.out S _ _ _ _ (Row.bel bl R5.out) (by omega) (by omega)).mono ?_); rintro e w1 ⟨rfl, hb1⟩; have hz1 := hb1.sz; obtain ⟨hk1_0, hf1_0, hl1_0, hn1_0⟩ := hb1.lay (w.heap.size); (try simp only [VVal.val])))
 all_goals
  go_returns
  refine ⟨?_, bl⟩
  rw [TCore.D_mk]
  simp_all [szL, Dat.wtL, Dat.wt]
  try omega
set_option maxHeartbeats 1000000 in
theorem toCore_any : ∀ t : TCore, ToCore t := by
 refine TCore.ind fun x0 x1 x2 x3 x4 x5 IH => ?_
 intro S w vs hv hwt
 obtain ⟨A5, c5, rfl, g0, g1, g2, g3, g4, hR5⟩ := TCore.vals hv
 have R5 := hide hR5
 have IH' := hide IH
 have HW := hide hwt
 rw [TCore.D_mk] at hwt
 simp only [Dat.wtL, Dat.wt, List.length_map] at hwt
 have hw5 : x5.length + Dat.wtR (x5.map TCore.D) ≤ 1048576 := by omega
 clear IH hv hwt hR5
 unfold maxLen at g4
 go_enter Tryz.func75, Tryz.ntmps75
 go_wp2_with (fail)
 refine (toCoreS_of x5 IH'.out S _ _ _ (Row.bel bl R5.out) hw5).mono ?_
 rintro e w1 ⟨B5, d5, rfl, hQ5, hb1⟩
 (have hz1 := hb1.sz; obtain ⟨hk1_0, hf1_0, hl1_0, hn1_0⟩ := hb1.lay (w.heap.size); obtain ⟨hk1_1, hf1_1, hl1_1, hn1_1⟩ := hb1.lay (w.heap.size + 1); obtain ⟨hk1_2, hf1_2, hl1_2, hn1_2⟩ := hb1.lay (w.heap.size + 1 + 1))
 have Q5 := hide (Row.wide (S' := fun b => w.heap.size + 2 < b) (fun b hb => by simp at hb; omega) hQ5)
 clear hQ5
 go_wp2_with (fail)
 exact bodyPost_ret (v := .agg #[.int .i64 x0, .int .i64 x1, .int .i64 x2, .int .i64 x3, .string x4, .slice B5 x5.length d5]) (by simp [results, Tryz.results75, go_sem, hk1_1, hf1_1]) rfl
  ⟨[.int .i64 x0, .int .i64 x1, .int .i64 x2, .int .i64 x3, .string x4, .slice B5 x5.length d5], rfl, TCore.vals_mk g0 g1 g2 g3 g4 (Row.wide (fun b hb => by omega) (Row.off ofl Q5.out)), bl⟩
set_option maxHeartbeats 1000000 in
theorem eqCore_any : ∀ t : TCore, EqCore t := by
 refine TCore.ind fun x0 x1 x2 x3 x4 x5 IH => ?_
 intro S S' w vs vs' hv hv'
 obtain ⟨A5, c5, rfl, g0, g1, g2, g3, g4, hR5⟩ := TCore.vals hv
 obtain ⟨eA5, ec5, rfl, -, -, -, -, -, ehR5⟩ := TCore.vals hv'
 have R5 := hide hR5
 have T5 := hide ehR5
 have IH' := hide IH
 clear IH hv hv' hR5 ehR5
 unfold maxLen at g4
 go_enter Tryz.func85, Tryz.ntmps85
 go_wp2_with (first
  | (go_at_call 95; (with_reducible refine (eqCoreS_of x5 IH'.out S S' _ _ _ _ _ (Row.bel bl R5.out) (Row.bel bl T5.out)).mono ?_); rintro e w1 ⟨rfl, hb1⟩; have hz1 := hb1.sz; obtain ⟨hk1_0, hf1_0, hl1_0, hn1_0⟩ := hb1.lay (w.heap.size); obtain ⟨hk1_1, hf1_1, hl1_1, hn1_1⟩ := hb1.lay (w.heap.size + 1); (try simp only [VVal.val])))
 all_goals
  go_returns
  exact ⟨rfl, bl⟩
end Go.Proofs.YtgofbnmablgedaaGreatDoor
namespace Go.Proofs.YtgofbnmablgedaaGreatDoor
set_option linter.unusedVariables false
set_option linter.unusedSimpArgs false
set_option maxRecDepth 100000
open Go.RowKit
theorem wp_named {P : Program} {c : Code} {Q : Exit → Act → World → Prop} {a : Act} {W : World} (h : ∀ wq, W = wq → Code.wp P c Q a wq) : Code.wp P c Q a W := h W rfl
def SzRoutine (t : TRoutine) : Prop := ∀ (S : Nat → Prop) (w : World) (vs : List Value) (left : Int), Dat.HoldVals w S t.D vs → 0 ≤ left → left ≤ 1048576 →
 Calls Tryz.prog 41 #[.agg vs.toArray, .int .i64 left] w fun e w' => e = .returned (.int .i64 (szL (Dat.wtL t.D) left)) ∧ Bel w w'
set_option maxHeartbeats 400000 in
theorem szRoutineS_of (ks : List TRoutine) (IH : ∀ (i : Nat) (hi : i < ks.length), SzRoutine ks[i]) (S : Nat → Prop) (w : World) (A : Option Addr) (c : Nat) (left : Int) (hR : Row w S 9 A c (ks.map TRoutine.D)) (h0 : 0 ≤ left) (h1 : left ≤ 1048576) :
  Calls Tryz.prog 13 #[.slice A ks.length c, .int .i64 left] w fun e w' => e = .returned (.int .i64 (szL (ks.length + Dat.wtR (ks.map TRoutine.D)) left)) ∧ Bel w w' := by
 have IH' := hide IH
 have HR := hide hR
 have hlen := hR.1
 have hcm := hR.2.1
 simp only [List.length_map] at hlen
 unfold maxLen at hcm
 clear IH hR
 rcases Int.lt_or_le left ks.length with hn | hn
 ·
  go_enter Tryz.func13, Tryz.ntmps13
  go_wp2_with (fail)
  all_goals
   go_returns
   exact ⟨ret_i64 (by rw [szL_no (by omega)]), bl⟩
 go_enter Tryz.func13, Tryz.ntmps13
 go_wp2_with (fail)
 go_loopw [1, 5] (fun lv iv wr => ∃ k : Nat, k ≤ ks.length ∧ iv = .int .i64 k ∧ lv = .int .i64 (left - ks.length - (Dat.wtR ((ks.map TRoutine.D).take k) : Nat)) ∧ 0 ≤ left - ks.length - (Dat.wtR ((ks.map TRoutine.D).take k) : Nat) ∧ Bel w wr) (fun _ iv _ => ks.length - (intOf iv).toNat)
 case atStart => exact ⟨0, Nat.zero_le _, rfl, by simp [Dat.wtR], by simp [Dat.wtR]; omega, Bel.refl _⟩
 case round =>
  obtain ⟨k, hk, rfl, rfl, hl0, hbw⟩ := hrel
  rcases Nat.lt_or_ge k ks.length with hlt | hge
  ·
   have hd : decide ((k : Int) < (ks.length : Int)) = true := by simp; omega
   (obtain ⟨b1, o1, x1_0, x1_1, x1_2, x1_3, x1_4, x1_5, x1_6, x1_7, x1_8, A1_2, C1_2, A1_8, C1_8, hA1, hS1, hl1, hx1, hv1, g1_0, g1_1, g1_2, g1_3, g1_4, g1_5, g1_6, g1_7, g1_8, c1_0, c1_1, c1_2, c1_3, c1_4, c1_5, c1_6, c1_7, c1_8⟩ := TRoutine.at HR.out k hlt; subst hA1; have HV1 := hide (Dat.HoldVals.bel hbw hv1); have hh1 := hbw.box b1 hl1; have hw1 := Nat.lt_of_lt_of_le hl1 (Bel.size hbw); replace c1_0 := (hh1 _).trans c1_0; replace c1_1 := (hh1 _).trans c1_1; replace c1_2 := (hh1 _).trans c1_2; replace c1_3 := (hh1 _).trans c1_3; replace c1_4 := (hh1 _).trans c1_4; replace c1_5 := (hh1 _).trans c1_5; replace c1_6 := (hh1 _).trans c1_6; replace c1_7 := (hh1 _).trans c1_7; replace c1_8 := (hh1 _).trans c1_8; have HX1 := hide hx1; have GR1_2 := hide g1_2; have GR1_8 := hide g1_8; clear hh1 hv1 hx1 hS1 g1_2 g1_8)
   have e1 := hide (Dat.wtR_take (ks.map TRoutine.D) k (by simpa using hlt))
   have e2 := hide (Dat.wtR_le (ks.map TRoutine.D) (k + 1))
   have hl1 : left - ks.length - (Dat.wtR ((ks.map TRoutine.D).take k) : Nat) ≤ 1048576 := by omega
   rcases Int.lt_or_le (left - ks.length - (Dat.wtR ((ks.map TRoutine.D).take k) : Nat)) (Dat.wtL ks[k].D) with hq | hq
   ·
    have HZ := hide (szL_no hq)
    have HQ := hide hq
    clear hq
    go_wp2_with (fail)
    refine (IH'.out k hlt S _ _ _ (Dat.HoldVals.bel bl HV1.out) hl0 hl1).mono ?_
    rintro e w1 ⟨rfl, hb1⟩
    rw [HZ.out]
    go_wp2_with (fail)
    all_goals
     go_returns
     have e1 := e1.out
     have e2 := e2.out
     have hq := HQ.out
     rw [List.getElem_map] at e1
     exact ⟨ret_i64 (by rw [szL_no (by omega)]), bl⟩
   ·
    have HZ := hide (szL_yes (show ¬ left - ks.length - (Dat.wtR ((ks.map TRoutine.D).take k) : Nat) < (Dat.wtL ks[k].D : Nat) by omega))
    go_wp2_with (fail)
    refine (IH'.out k hlt S _ _ _ (Dat.HoldVals.bel bl HV1.out) hl0 hl1).mono ?_
    rintro e w1 ⟨rfl, hb1⟩
    rw [HZ.out]
    go_wp2_with (fail)
    all_goals
     go_roundw
     case rel => exact ⟨k + 1, by omega, by go_num, by have e1 := e1.out; rw [List.getElem_map] at e1; rw [e1]; go_num, by have e1 := e1.out; rw [List.getElem_map] at e1; rw [e1]; omega, bl⟩
     case measure => simp [intOf]; omega
  ·
   have hd : decide ((k : Int) < (ks.length : Int)) = false := by simp; omega
   go_wp2_with (fail)
   go_returns
   rw [List.take_of_length_le (by simp; omega)] at hl0 ⊢
   exact ⟨ret_i64 (by rw [szL_yes (by omega)]; omega), hbw⟩
def ToRoutine (t : TRoutine) : Prop := ∀ (S : Nat → Prop) (w : World) (vs : List Value), Dat.HoldVals w S t.D vs → Dat.wtL t.D ≤ 1048576 →
 Calls Tryz.prog 48 #[.agg vs.toArray] w (MadeV w t.D)
set_option maxHeartbeats 400000 in
theorem toRoutineS_of (ks : List TRoutine) (IH : ∀ (i : Nat) (hi : i < ks.length), ToRoutine ks[i]) (S : Nat → Prop) (w : World) (A : Option Addr) (c : Nat) (hR : Row w S 9 A c (ks.map TRoutine.D)) (hwt : ks.length + Dat.wtR (ks.map TRoutine.D) ≤ 1048576) :
    Calls Tryz.prog 19 #[.slice A ks.length c] w (MadeR w 9 (ks.map TRoutine.D)) := by
  have IH' := hide IH
  have HR := hide hR
  have hlen := hR.1
  have hcm := hR.2.1
  simp only [List.length_map] at hlen
  unfold maxLen at hcm
  clear IH hR
  obtain ⟨cur, hcur, hmk⟩ := make_rows (P := Tryz.prog) (t := 36) (e := 55) (k := 9) ks.length (by omega) Tryz.underlying36 (by kernel_rfl)
  have HC := hide hcur
  clear hcur
  have HW := hide hwt
  clear hwt
  go_enter Tryz.func19, Tryz.ntmps19
  go_wp2_with (fail)
  have HM := hide (Bel.refl (w.alloc (.cells cur 55)))
  have HF := hide (Fill.start w 55 9 ks.length (fun b => w.heap.size < b) HC.out)
  clear hmk
  go_loopw [4] (fun iv wr => ∃ k : Nat, k ≤ ks.length ∧ iv = .int .i64 k ∧ Fill wr w.heap.size 55 9 ks.length (fun b => w.heap.size < b) ((ks.map TRoutine.D).take k) ∧ Bel w wr) (fun iv _ => ks.length - (intOf iv).toNat)
  case atStart => exact ⟨0, Nat.zero_le _, rfl, HF.out, bl⟩
  case round =>
    obtain ⟨k, hk, rfl, hF, hbw⟩ := hrel
    have HF1 := hide hF
    have hgl := hF.lt
    clear hF HF
    rcases Nat.lt_or_ge k ks.length with hlt | hge
    · have hd : decide ((k : Int) < (ks.length : Int)) = true := by simp; omega
      have hi0 : 0 ≤ (k : Int) := by omega
      have hi1 : (k : Int) < (ks.length : Int) := by omega
      (obtain ⟨b1, o1, x1_0, x1_1, x1_2, x1_3, x1_4, x1_5, x1_6, x1_7, x1_8, A1_2, C1_2, A1_8, C1_8, hA1, hS1, hl1, hx1, hv1, g1_0, g1_1, g1_2, g1_3, g1_4, g1_5, g1_6, g1_7, g1_8, c1_0, c1_1, c1_2, c1_3, c1_4, c1_5, c1_6, c1_7, c1_8⟩ := TRoutine.at HR.out k hlt; subst hA1; have HV1 := hide (Dat.HoldVals.bel hbw hv1); have hh1 := hbw.box b1 hl1; have hw1 := Nat.lt_of_lt_of_le hl1 (Bel.size hbw); replace c1_0 := (hh1 _).trans c1_0; replace c1_1 := (hh1 _).trans c1_1; replace c1_2 := (hh1 _).trans c1_2; replace c1_3 := (hh1 _).trans c1_3; replace c1_4 := (hh1 _).trans c1_4; replace c1_5 := (hh1 _).trans c1_5; replace c1_6 := (hh1 _).trans c1_6; replace c1_7 := (hh1 _).trans c1_7; replace c1_8 := (hh1 _).trans c1_8; have HX1 := hide hx1; have GR1_2 := hide g1_2; have GR1_8 := hide g1_8; clear hh1 hv1 hx1 hS1 g1_2 g1_8)
      have hw := hide (Dat.wtR_take (ks.map TRoutine.D) k (by simpa using hlt))
      have hw' := hide (Dat.wtR_le (ks.map TRoutine.D) (k + 1))
      have hwk : Dat.wtL ks[k].D ≤ 1048576 := by have a := hw.out; have b := hw'.out; have c := HW.out; rw [List.getElem_map] at a; omega
      go_wp2_with (fail)
      refine (IH'.out k hlt S _ _ (Dat.HoldVals.bel bl HV1.out) hwk).mono ?_
      rintro e w1 ⟨vs', rfl, hv', hb1⟩
      have HV' := hide hv'
      rw [HX1.out] at hv'
      obtain ⟨A2, c2, A8, c8, rfl, -⟩ := TRoutine.vals hv'
      clear hv'
      have HF2 := hide (Fill.bel HF1.out hb1)
      obtain ⟨y0, e0⟩ := HF2.out.cell (i := k * 9) (by omega)
      obtain ⟨y1, e1⟩ := HF2.out.cell (i := k * 9 + 1) (by omega)
      obtain ⟨y2, e2⟩ := HF2.out.cell (i := k * 9 + 2) (by omega)
      obtain ⟨y3, e3⟩ := HF2.out.cell (i := k * 9 + 3) (by omega)
      obtain ⟨y4, e4⟩ := HF2.out.cell (i := k * 9 + 4) (by omega)
      obtain ⟨y5, e5⟩ := HF2.out.cell (i := k * 9 + 5) (by omega)
      obtain ⟨y6, e6⟩ := HF2.out.cell (i := k * 9 + 6) (by omega)
      obtain ⟨y7, e7⟩ := HF2.out.cell (i := k * 9 + 7) (by omega)
      obtain ⟨y8, e8⟩ := HF2.out.cell (i := k * 9 + 8) (by omega)
      have f0 := HF2.out.free (k * 9)
      have f1 := HF2.out.free (k * 9 + 1)
      have f2 := HF2.out.free (k * 9 + 2)
      have f3 := HF2.out.free (k * 9 + 3)
      have f4 := HF2.out.free (k * 9 + 4)
      have f5 := HF2.out.free (k * 9 + 5)
      have f6 := HF2.out.free (k * 9 + 6)
      have f7 := HF2.out.free (k * 9 + 7)
      have f8 := HF2.out.free (k * 9 + 8)
      go_wp2_with (fail)
      go_roundw
      case rel =>
       exact ⟨k + 1, by omega, by go_num, Fill.snoc9 HF2.out hlt rfl (fun b hb => by omega) HV'.out (fun b hb => by omega), bl⟩
      case measure => simp [intOf]; omega
    · have hd : decide ((k : Int) < (ks.length : Int)) = false := by simp; omega
      go_wp2_with (fail)
      go_returns
      exact ⟨some ⟨w.heap.size, 0, none⟩, ks.length, by rw [List.length_map]; rfl, Fill.done HF1.out hge rfl (by unfold maxLen; omega) (fun b hb => by omega) (by omega), hbw⟩
def EqRoutine (t : TRoutine) : Prop := ∀ (S S' : Nat → Prop) (w : World) (vs vs' : List Value), Dat.HoldVals w S t.D vs → Dat.HoldVals w S' t.D vs' →
 Calls Tryz.prog 63 #[.agg vs.toArray, .agg vs'.toArray] w fun e w' => e = .returned (.bool true) ∧ Bel w w'
set_option maxHeartbeats 400000 in
theorem eqRoutineS_of (ks : List TRoutine) (IH : ∀ (i : Nat) (hi : i < ks.length), EqRoutine ks[i]) (S S' : Nat → Prop) (w : World) (A A' : Option Addr) (c c' : Nat) (hR : Row w S 9 A c (ks.map TRoutine.D)) (hR' : Row w S' 9 A' c' (ks.map TRoutine.D)) :
  Calls Tryz.prog 29 #[.slice A ks.length c, .slice A' ks.length c'] w fun e w' => e = .returned (.bool true) ∧ Bel w w' := by
 have IH' := hide IH
 have HR := hide hR
 have HR' := hide hR'
 have hlen := hR.1
 have hcm := hR.2.1
 have hlen' := hR'.1
 have hcm' := hR'.2.1
 simp only [List.length_map] at hlen hlen'
 unfold maxLen at hcm hcm'
 clear IH hR hR'
 go_enter Tryz.func29, Tryz.ntmps29
 go_wp2_with (fail)
 go_loopw [5] (fun iv wr => ∃ k : Nat, k ≤ ks.length ∧ iv = .int .i64 k ∧ Bel w wr) (fun iv _ => ks.length - (intOf iv).toNat)
 case atStart => exact ⟨0, Nat.zero_le _, rfl, Bel.refl _⟩
 case round =>
  obtain ⟨k, hk, rfl, hbw⟩ := hrel
  rcases Nat.lt_or_ge k ks.length with hlt | hge
  ·
   have hd : decide ((k : Int) < (ks.length : Int)) = true := by simp; omega
   have hi0 : 0 ≤ (k : Int) := by omega
   have hi1 : (k : Int) < (ks.length : Int) := by omega
   (obtain ⟨b1, o1, x1_0, x1_1, x1_2, x1_3, x1_4, x1_5, x1_6, x1_7, x1_8, A1_2, C1_2, A1_8, C1_8, hA1, hS1, hl1, hx1, hv1, g1_0, g1_1, g1_2, g1_3, g1_4, g1_5, g1_6, g1_7, g1_8, c1_0, c1_1, c1_2, c1_3, c1_4, c1_5, c1_6, c1_7, c1_8⟩ := TRoutine.at HR.out k hlt; subst hA1; have HV1 := hide (Dat.HoldVals.bel hbw hv1); have hh1 := hbw.box b1 hl1; have hw1 := Nat.lt_of_lt_of_le hl1 (Bel.size hbw); replace c1_0 := (hh1 _).trans c1_0; replace c1_1 := (hh1 _).trans c1_1; replace c1_2 := (hh1 _).trans c1_2; replace c1_3 := (hh1 _).trans c1_3; replace c1_4 := (hh1 _).trans c1_4; replace c1_5 := (hh1 _).trans c1_5; replace c1_6 := (hh1 _).trans c1_6; replace c1_7 := (hh1 _).trans c1_7; replace c1_8 := (hh1 _).trans c1_8; have HX1 := hide hx1; have GR1_2 := hide g1_2; have GR1_8 := hide g1_8; clear hh1 hv1 hx1 hS1 g1_2 g1_8)
   (obtain ⟨b2, o2, x2_0, x2_1, x2_2, x2_3, x2_4, x2_5, x2_6, x2_7, x2_8, A2_2, C2_2, A2_8, C2_8, hA2, hS2, hl2, hx2, hv2, g2_0, g2_1, g2_2, g2_3, g2_4, g2_5, g2_6, g2_7, g2_8, c2_0, c2_1, c2_2, c2_3, c2_4, c2_5, c2_6, c2_7, c2_8⟩ := TRoutine.at HR'.out k hlt; subst hA2; have HV2 := hide (Dat.HoldVals.bel hbw hv2); have hh2 := hbw.box b2 hl2; have hw2 := Nat.lt_of_lt_of_le hl2 (Bel.size hbw); replace c2_0 := (hh2 _).trans c2_0; replace c2_1 := (hh2 _).trans c2_1; replace c2_2 := (hh2 _).trans c2_2; replace c2_3 := (hh2 _).trans c2_3; replace c2_4 := (hh2 _).trans c2_4; replace c2_5 := (hh2 _).trans c2_5; replace c2_6 := (hh2 _).trans c2_6; replace c2_7 := (hh2 _).trans c2_7; replace c2_8 := (hh2 _).trans c2_8; have HX2 := hide hx2; have GR2_2 := hide g2_2; have GR2_8 := hide g2_8; clear hh2 hv2 hx2 hS2 g2_2 g2_8)
   have HY := hide (HX1.out.symm.trans HX2.out)
   go_wp2_with (fail)
   go_region_held3 (fun w' => w'.cell? ⟨b1, o1 + k * 9, none⟩ = some (.string x1_0) ∧ w'.cell? ⟨b1, o1 + k * 9 + 1, none⟩ = some (.int .i64 x1_1) ∧ w'.cell? ⟨b1, o1 + k * 9 + 2, none⟩ = some (.slice A1_2 x1_2.length C1_2) ∧ w'.cell? ⟨b1, o1 + k * 9 + 3, none⟩ = some (.int .i64 x1_3) ∧ w'.cell? ⟨b1, o1 + k * 9 + 4, none⟩ = some (.int .i64 x1_4) ∧ w'.cell? ⟨b1, o1 + k * 9 + 5, none⟩ = some (.int .i64 x1_5) ∧ w'.cell? ⟨b1, o1 + k * 9 + 6, none⟩ = some (.int .i64 x1_6) ∧ w'.cell? ⟨b1, o1 + k * 9 + 7, none⟩ = some (.string x1_7) ∧ w'.cell? ⟨b1, o1 + k * 9 + 8, none⟩ = some (.slice A1_8 x1_8.length C1_8) ∧ w'.cell? ⟨b2, o2 + k * 9, none⟩ = some (.string x2_0) ∧ w'.cell? ⟨b2, o2 + k * 9 + 1, none⟩ = some (.int .i64 x2_1) ∧ w'.cell? ⟨b2, o2 + k * 9 + 2, none⟩ = some (.slice A2_2 x2_2.length C2_2) ∧ w'.cell? ⟨b2, o2 + k * 9 + 3, none⟩ = some (.int .i64 x2_3) ∧ w'.cell? ⟨b2, o2 + k * 9 + 4, none⟩ = some (.int .i64 x2_4) ∧ w'.cell? ⟨b2, o2 + k * 9 + 5, none⟩ = some (.int .i64 x2_5) ∧ w'.cell? ⟨b2, o2 + k * 9 + 6, none⟩ = some (.int .i64 x2_6) ∧ w'.cell? ⟨b2, o2 + k * 9 + 7, none⟩ = some (.string x2_7) ∧ w'.cell? ⟨b2, o2 + k * 9 + 8, none⟩ = some (.slice A2_8 x2_8.length C2_8)) (go_keep) (first | (go_at_call 63; refine (IH'.out k hlt S S' _ _ _ (Dat.HoldVals.bel bl HV1.out) (Dat.HoldVals.bel bl HV2.out)).mono ?_; rintro e w1 ⟨rfl, hb1⟩; have hq1 := hb1.box b1 (by simp; omega); have hq2 := hb1.box b2 (by simp; omega); simp only [World.cell?_drew] at hq1 hq2))
   all_goals
    go_wp2_with (fail)
    go_roundw
    case rel => exact ⟨k + 1, by omega, by go_num, bl⟩
    case measure => simp [intOf]; omega
  ·
   have hd : decide ((k : Int) < (ks.length : Int)) = false := by simp; omega
   go_wp2_with (fail)
   go_returns
   exact ⟨rfl, hbw⟩
set_option maxHeartbeats 4000000 in
theorem szRoutine_any : ∀ t : TRoutine, SzRoutine t := by
 rintro ⟨x0, x1, x2, x3, x4, x5, x6, x7, x8⟩
 intro S w vs left hv h0 h1
 obtain ⟨A2, c2, A8, c8, rfl, g0, g1, hR2, g3, g4, g5, g6, g7, hR8⟩ := TRoutine.vals hv
 have R2 := hide hR2
 have R8 := hide hR8
 clear hv hR2 hR8
 have G0 := hide g0
 unfold maxLen at g0
 have G7 := hide g7
 unfold maxLen at g7
 rw [TRoutine.D_mk]
 simp only [Dat.wtL, Dat.wt, List.length_map]
 go_enter Tryz.func41, Tryz.ntmps41
 rcases Int.lt_or_le (left) (x0.size : Int) with hq0 | hq0
 ·
  go_wp2_with (fail)
  all_goals
   go_returns
   exact ⟨ret_i64 (by rw [szL_no (by omega)]), bl⟩
 go_wp2_with (fail)
 refine (Calls.szTwo (szStringS_any x2 S _ _ _ _ (Row.bel bl R2.out) (by omega) (by omega))).mono ?_
 rintro e w1 ⟨l1, rfl, hl1, hb1⟩
 (have hz1 := hb1.sz; obtain ⟨hk1_0, hf1_0, hl1_0, hn1_0⟩ := hb1.lay (w.heap.size))
 rcases hl1 with ⟨hq1, rfl⟩ | ⟨hq1, hz1'⟩
 ·
  have HQ1 := hide hq1
  clear hq1
  go_wp2_with (fail)
  all_goals
   go_returns
   have HQ1' := HQ1.out
   exact ⟨ret_i64 (by rw [szL_no (by omega)]), bl⟩
 have HQ1 := hide hq1
 have HL1 := hide hz1'
 have ha1 : 0 ≤ l1 := by omega
 have hc1 : l1 ≤ 1048576 := by omega
 clear hq1 hz1'
 go_wp2_with (fail)
 refine (Calls.szTwo (szCore_any (.mk x3 x4 x5 x6 x7 x8) S _ _ _ (TCore.vals_mk g3 g4 g5 g6 G7.out (Row.bel bl R8.out)) (by omega) (by omega))).mono ?_
 rintro e w2 ⟨l2, rfl, hl2, hb2⟩
 rw [TCore.D_mk] at hl2
 simp only [Dat.wtL, Dat.wt, List.length_map] at hl2
 (have hz2 := hb2.sz; obtain ⟨hk2_0, hf2_0, hl2_0, hn2_0⟩ := hb2.lay (w.heap.size))
 rcases hl2 with ⟨hq2, rfl⟩ | ⟨hq2, hz2'⟩
 ·
  have HQ2 := hide hq2
  clear hq2
  go_wp2_with (fail)
  all_goals
   go_returns
   have HQ1' := HQ1.out
   have HL1' := HL1.out
   have HQ2' := HQ2.out
   exact ⟨ret_i64 (by rw [szL_no (by omega)]), bl⟩
 have HQ2 := hide hq2
 have HL2 := hide hz2'
 have ha2 : 0 ≤ l2 := by omega
 have hc2 : l2 ≤ 1048576 := by omega
 clear hq2 hz2'
 go_wp2_with (fail)
 all_goals
  go_returns
  have HQ1' := HQ1.out
  have HL1' := HL1.out
  have HQ2' := HQ2.out
  have HL2' := HL2.out
  exact ⟨ret_i64 (by rw [szL_yes (by omega)]; omega), bl⟩
set_option maxHeartbeats 4000000 in
theorem toRoutine_any : ∀ t : TRoutine, ToRoutine t := by
 rintro ⟨x0, x1, x2, x3, x4, x5, x6, x7, x8⟩
 intro S w vs hv hwt
 obtain ⟨A2, c2, A8, c8, rfl, g0, g1, hR2, g3, g4, g5, g6, g7, hR8⟩ := TRoutine.vals hv
 have R2 := hide hR2
 have R8 := hide hR8
 have HW := hide hwt
 rw [TRoutine.D_mk] at hwt
 simp only [Dat.wtL, Dat.wt, List.length_map] at hwt
 have hw2 : x2.length + Dat.wtR (x2.map (fun x => [Dat.str x])) ≤ 1048576 := by omega
 have hw3 : Dat.wtL (TCore.mk x3 x4 x5 x6 x7 x8).D ≤ 1048576 := by rw [TCore.D_mk]; simp only [Dat.wtL, Dat.wt, List.length_map]; omega
 clear hv hwt hR2 hR8
 have G0 := hide g0
 unfold maxLen at g0
 have G7 := hide g7
 unfold maxLen at g7
 go_enter Tryz.func48, Tryz.ntmps48
 go_wp2_with (fail)
 refine (toStringS_any x2 S _ _ _ (Row.bel bl R2.out) hw2).mono ?_
 rintro e w1 ⟨B2, d2, rfl, hQ2, hb1⟩
 (have hz1 := hb1.sz; obtain ⟨hk1_0, hf1_0, hl1_0, hn1_0⟩ := hb1.lay (w.heap.size); obtain ⟨hk1_1, hf1_1, hl1_1, hn1_1⟩ := hb1.lay (w.heap.size + 1); obtain ⟨hk1_2, hf1_2, hl1_2, hn1_2⟩ := hb1.lay (w.heap.size + 1 + 1))
 have Q2 := hide (Row.wide (S' := fun b => w.heap.size + 2 < b) (fun b hb => by (try simp at hb); omega) hQ2)
 clear hQ2
 go_wp2_with (fail)
 refine Calls.named fun W1 hW1 => ?_
 have hB1 : Bel w W1 := by rw [← hW1]; exact bl
 have hZ1 := hB1.size
 have hY1 : w.heap.size + 1 + 1 < W1.heap.size := by rw [← hW1]; simp; omega
 have ka1_3 : W1.cell? ⟨w.heap.size, 3, none⟩ = some (.int .i64 x3) := by rw [← hW1]; simp [hk1_0, go_sem] <;> rfl
 have ka1_4 : W1.cell? ⟨w.heap.size, 4, none⟩ = some (.int .i64 x4) := by rw [← hW1]; simp [hk1_0, go_sem] <;> rfl
 have ka1_5 : W1.cell? ⟨w.heap.size, 5, none⟩ = some (.int .i64 x5) := by rw [← hW1]; simp [hk1_0, go_sem] <;> rfl
 have ka1_6 : W1.cell? ⟨w.heap.size, 6, none⟩ = some (.int .i64 x6) := by rw [← hW1]; simp [hk1_0, go_sem] <;> rfl
 have ka1_7 : W1.cell? ⟨w.heap.size, 7, none⟩ = some (.string x7) := by rw [← hW1]; simp [hk1_0, go_sem] <;> rfl
 have ka1_8 : W1.cell? ⟨w.heap.size, 8, none⟩ = some (.slice A8 x8.length c8) := by rw [← hW1]; simp [hk1_0, go_sem] <;> rfl
 have fa1 : ∀ o, W1.frozen? ⟨w.heap.size, o, none⟩ = false := by intro o; rw [← hW1]; simp [hf1_0, go_sem]
 have kr1_0 : W1.cell? ⟨w.heap.size + 1, 0, none⟩ = some (.string ByteArray.empty) := by rw [← hW1]; simp [hk1_1, go_sem] <;> rfl
 have kr1_1 : W1.cell? ⟨w.heap.size + 1, 1, none⟩ = some (.int .i64 0) := by rw [← hW1]; simp [hk1_1, go_sem] <;> rfl
 have kr1_2 : W1.cell? ⟨w.heap.size + 1, 2, none⟩ = some (.slice none 0 0) := by rw [← hW1]; simp [hk1_1, go_sem] <;> rfl
 have kr1_3 : W1.cell? ⟨w.heap.size + 1, 3, none⟩ = some (.int .i64 0) := by rw [← hW1]; simp [hk1_1, go_sem] <;> rfl
 have kr1_4 : W1.cell? ⟨w.heap.size + 1, 4, none⟩ = some (.int .i64 0) := by rw [← hW1]; simp [hk1_1, go_sem] <;> rfl
 have kr1_5 : W1.cell? ⟨w.heap.size + 1, 5, none⟩ = some (.int .i64 0) := by rw [← hW1]; simp [hk1_1, go_sem] <;> rfl
 have kr1_6 : W1.cell? ⟨w.heap.size + 1, 6, none⟩ = some (.int .i64 0) := by rw [← hW1]; simp [hk1_1, go_sem] <;> rfl
 have kr1_7 : W1.cell? ⟨w.heap.size + 1, 7, none⟩ = some (.string ByteArray.empty) := by rw [← hW1]; simp [hk1_1, go_sem] <;> rfl
 have kr1_8 : W1.cell? ⟨w.heap.size + 1, 8, none⟩ = some (.slice none 0 0) := by rw [← hW1]; simp [hk1_1, go_sem] <;> rfl
 have fr1 : ∀ o, W1.frozen? ⟨w.heap.size + 1, o, none⟩ = false := by intro o; rw [← hW1]; simp [hf1_1, go_sem]
 have ko1_0 : W1.cell? ⟨w.heap.size + 1 + 1, 0, none⟩ = some (.string x0) := by rw [← hW1]; simp [hk1_2, go_sem] <;> rfl
 have ko1_1 : W1.cell? ⟨w.heap.size + 1 + 1, 1, none⟩ = some (.int .i64 x1) := by rw [← hW1]; simp [hk1_2, go_sem] <;> rfl
 have ko1_2 : W1.cell? ⟨w.heap.size + 1 + 1, 2, none⟩ = some (.slice B2 x2.length d2) := by rw [← hW1]; simp [hk1_2, go_sem] <;> rfl
 have ko1_3 : W1.cell? ⟨w.heap.size + 1 + 1, 3, none⟩ = some (.int .i64 0) := by rw [← hW1]; simp [hk1_2, go_sem] <;> rfl
 have ko1_4 : W1.cell? ⟨w.heap.size + 1 + 1, 4, none⟩ = some (.int .i64 0) := by rw [← hW1]; simp [hk1_2, go_sem] <;> rfl
 have ko1_5 : W1.cell? ⟨w.heap.size + 1 + 1, 5, none⟩ = some (.int .i64 0) := by rw [← hW1]; simp [hk1_2, go_sem] <;> rfl
 have ko1_6 : W1.cell? ⟨w.heap.size + 1 + 1, 6, none⟩ = some (.int .i64 0) := by rw [← hW1]; simp [hk1_2, go_sem] <;> rfl
 have ko1_7 : W1.cell? ⟨w.heap.size + 1 + 1, 7, none⟩ = some (.string ByteArray.empty) := by rw [← hW1]; simp [hk1_2, go_sem] <;> rfl
 have ko1_8 : W1.cell? ⟨w.heap.size + 1 + 1, 8, none⟩ = some (.slice none 0 0) := by rw [← hW1]; simp [hk1_2, go_sem] <;> rfl
 have fo1 : ∀ o, W1.frozen? ⟨w.heap.size + 1 + 1, o, none⟩ = false := by intro o; rw [← hW1]; simp [hf1_2, go_sem]
 replace Q2 := hide (Row.off (show Off _ _ W1 by rw [← hW1]; exact ofl) Q2.out)
 clear hW1 hk1_0 hk1_1 hk1_2 hf1_0 hf1_1 hf1_2 hb1
 refine (toCore_any (.mk x3 x4 x5 x6 x7 x8) S _ _ (TCore.vals_mk g3 g4 g5 g6 G7.out (Row.bel bl R8.out)) hw3).mono ?_
 rintro e w2 ⟨vs2, rfl, hv2, hb2⟩
 obtain ⟨B8, d8, rfl, -, -, -, -, -, hQ8⟩ := TCore.vals hv2
 (have hz2 := hb2.sz; obtain ⟨hk2_0, hf2_0, hl2_0, hn2_0⟩ := hb2.lay (w.heap.size); obtain ⟨hk2_1, hf2_1, hl2_1, hn2_1⟩ := hb2.lay (w.heap.size + 1); obtain ⟨hk2_2, hf2_2, hl2_2, hn2_2⟩ := hb2.lay (w.heap.size + 1 + 1))
 have Q8 := hide (Row.wide (S' := fun b => w.heap.size + 2 < b) (fun b hb => by (try simp at hb); omega) hQ8)
 clear hv2 hQ8
 go_upto_region 6 with (fail)
 refine wp_named fun W2 hW2 => ?_
 have hB2 : Bel w W2 := by rw [← hW2]; exact bl
 have hZ2 := hB2.size
 have hY2 : w.heap.size + 1 + 1 < W2.heap.size := by rw [← hW2]; simp; omega
 have fa2 : ∀ o, W2.frozen? ⟨w.heap.size, o, none⟩ = false := by intro o; rw [← hW2]; simp [hf2_0, go_sem, fa1]
 have kr2_0 : W2.cell? ⟨w.heap.size + 1, 0, none⟩ = some (.string ByteArray.empty) := by rw [← hW2]; simp [hk2_1, go_sem, kr1_0] <;> rfl
 have kr2_1 : W2.cell? ⟨w.heap.size + 1, 1, none⟩ = some (.int .i64 0) := by rw [← hW2]; simp [hk2_1, go_sem, kr1_1] <;> rfl
 have kr2_2 : W2.cell? ⟨w.heap.size + 1, 2, none⟩ = some (.slice none 0 0) := by rw [← hW2]; simp [hk2_1, go_sem, kr1_2] <;> rfl
 have kr2_3 : W2.cell? ⟨w.heap.size + 1, 3, none⟩ = some (.int .i64 0) := by rw [← hW2]; simp [hk2_1, go_sem, kr1_3] <;> rfl
 have kr2_4 : W2.cell? ⟨w.heap.size + 1, 4, none⟩ = some (.int .i64 0) := by rw [← hW2]; simp [hk2_1, go_sem, kr1_4] <;> rfl
 have kr2_5 : W2.cell? ⟨w.heap.size + 1, 5, none⟩ = some (.int .i64 0) := by rw [← hW2]; simp [hk2_1, go_sem, kr1_5] <;> rfl
 have kr2_6 : W2.cell? ⟨w.heap.size + 1, 6, none⟩ = some (.int .i64 0) := by rw [← hW2]; simp [hk2_1, go_sem, kr1_6] <;> rfl
 have kr2_7 : W2.cell? ⟨w.heap.size + 1, 7, none⟩ = some (.string ByteArray.empty) := by rw [← hW2]; simp [hk2_1, go_sem, kr1_7] <;> rfl
 have kr2_8 : W2.cell? ⟨w.heap.size + 1, 8, none⟩ = some (.slice none 0 0) := by rw [← hW2]; simp [hk2_1, go_sem, kr1_8] <;> rfl
 have fr2 : ∀ o, W2.frozen? ⟨w.heap.size + 1, o, none⟩ = false := by intro o; rw [← hW2]; simp [hf2_1, go_sem, fr1]
 have ko2_0 : W2.cell? ⟨w.heap.size + 1 + 1, 0, none⟩ = some (.string x0) := by rw [← hW2]; simp [hk2_2, go_sem, ko1_0] <;> rfl
 have ko2_1 : W2.cell? ⟨w.heap.size + 1 + 1, 1, none⟩ = some (.int .i64 x1) := by rw [← hW2]; simp [hk2_2, go_sem, ko1_1] <;> rfl
 have ko2_2 : W2.cell? ⟨w.heap.size + 1 + 1, 2, none⟩ = some (.slice B2 x2.length d2) := by rw [← hW2]; simp [hk2_2, go_sem, ko1_2] <;> rfl
 have ko2_3 : W2.cell? ⟨w.heap.size + 1 + 1, 3, none⟩ = some (.int .i64 x3) := by rw [← hW2]; simp [hk2_2, go_sem, ko1_3] <;> rfl
 have ko2_4 : W2.cell? ⟨w.heap.size + 1 + 1, 4, none⟩ = some (.int .i64 x4) := by rw [← hW2]; simp [hk2_2, go_sem, ko1_4] <;> rfl
 have ko2_5 : W2.cell? ⟨w.heap.size + 1 + 1, 5, none⟩ = some (.int .i64 x5) := by rw [← hW2]; simp [hk2_2, go_sem, ko1_5] <;> rfl
 have ko2_6 : W2.cell? ⟨w.heap.size + 1 + 1, 6, none⟩ = some (.int .i64 x6) := by rw [← hW2]; simp [hk2_2, go_sem, ko1_6] <;> rfl
 have ko2_7 : W2.cell? ⟨w.heap.size + 1 + 1, 7, none⟩ = some (.string x7) := by rw [← hW2]; simp [hk2_2, go_sem, ko1_7] <;> rfl
 have ko2_8 : W2.cell? ⟨w.heap.size + 1 + 1, 8, none⟩ = some (.slice B8 x8.length d8) := by rw [← hW2]; simp [hk2_2, go_sem, ko1_8] <;> rfl
 have fo2 : ∀ o, W2.frozen? ⟨w.heap.size + 1 + 1, o, none⟩ = false := by intro o; rw [← hW2]; simp [hf2_2, go_sem, fo1]
 replace Q2 := hide (Row.off (show Off _ _ W2 by rw [← hW2]; exact ofl) Q2.out)
 replace Q8 := hide (Row.off (show Off _ _ W2 by rw [← hW2]; exact ofl) Q8.out)
 clear hW2 hk2_0 hk2_1 hk2_2 hf2_0 hf2_1 hf2_2 hb2 hB1 hY1 fa1 fr1 fo1 kr1_0 kr1_1 kr1_2 kr1_3 kr1_4 kr1_5 kr1_6 kr1_7 kr1_8 ko1_0 ko1_1 ko1_2 ko1_3 ko1_4 ko1_5 ko1_6 ko1_7 ko1_8 ka1_3 ka1_4 ka1_5 ka1_6 ka1_7 ka1_8
 go_wp2_with (fail)
 exact bodyPost_ret (v := .agg #[.string x0, .int .i64 x1, .slice B2 x2.length d2, .int .i64 x3, .int .i64 x4, .int .i64 x5, .int .i64 x6, .string x7, .slice B8 x8.length d8]) (by simp [results, Tryz.results48, go_sem, kr2_0, kr2_1, kr2_2, kr2_3, kr2_4, kr2_5, kr2_6, kr2_7, kr2_8, ko2_0, ko2_1, ko2_2, ko2_3, ko2_4, ko2_5, ko2_6, ko2_7, ko2_8, fr2, fo2]) rfl
  ⟨[.string x0, .int .i64 x1, .slice B2 x2.length d2, .int .i64 x3, .int .i64 x4, .int .i64 x5, .int .i64 x6, .string x7, .slice B8 x8.length d8], rfl, TRoutine.vals_mk g0 g1 (Row.wide (fun b hb => by omega) (Row.off ofl Q2.out)) g3 g4 g5 g6 g7 (Row.wide (fun b hb => by omega) (Row.off ofl Q8.out)), bl⟩
set_option maxHeartbeats 4000000 in
theorem eqRoutine_any : ∀ t : TRoutine, EqRoutine t := by
 rintro ⟨x0, x1, x2, x3, x4, x5, x6, x7, x8⟩
 intro S S' w vs vs' hv hv'
 obtain ⟨A2, c2, A8, c8, rfl, g0, g1, hR2, g3, g4, g5, g6, g7, hR8⟩ := TRoutine.vals hv
 obtain ⟨eA2, ec2, eA8, ec8, rfl, -, -, ehR2, -, -, -, -, -, ehR8⟩ := TRoutine.vals hv'
 have R2 := hide hR2
 have R8 := hide hR8
 have T2 := hide ehR2
 have T8 := hide ehR8
 clear hv hv' hR2 hR8 ehR2 ehR8
 have G0 := hide g0
 unfold maxLen at g0
 have G7 := hide g7
 unfold maxLen at g7
 go_enter Tryz.func63, Tryz.ntmps63
 go_wp2_with (first
  | (go_at_call 24; (with_reducible refine (eqStringS_any x2 S S' _ _ _ _ _ (Row.bel bl R2.out) (Row.bel bl T2.out)).mono ?_); rintro e w1 ⟨rfl, hb1⟩; have hz1 := hb1.sz; obtain ⟨hk1_0, hf1_0, hl1_0, hn1_0⟩ := hb1.lay (w.heap.size); obtain ⟨hk1_1, hf1_1, hl1_1, hn1_1⟩ := hb1.lay (w.heap.size + 1); (try simp only [VVal.val]))
  | (go_at_call 85; refine (eqCore_any (.mk x3 x4 x5 x6 x7 x8) S S' _ _ _ (TCore.vals_mk g3 g4 g5 g6 G7.out (Row.bel bl R8.out)) (TCore.vals_mk g3 g4 g5 g6 G7.out (Row.bel bl T8.out))).mono ?_; rintro e w2 ⟨rfl, hb2⟩; have hz2 := hb2.sz; obtain ⟨hk2_0, hf2_0, hl2_0, hn2_0⟩ := hb2.lay (w.heap.size); obtain ⟨hk2_1, hf2_1, hl2_1, hn2_1⟩ := hb2.lay (w.heap.size + 1); (try simp only [VVal.val])))
 all_goals
  go_returns
  exact ⟨rfl, bl⟩
theorem szRoutineS_any (ks : List TRoutine) (S : Nat → Prop) (w : World) (A : Option Addr) (c : Nat) (left : Int) (hR : Row w S 9 A c (ks.map TRoutine.D)) (h0 : 0 ≤ left) (h1 : left ≤ 1048576) :
  Calls Tryz.prog 13 #[.slice A ks.length c, .int .i64 left] w fun e w' => e = .returned (.int .i64 (szL (ks.length + Dat.wtR (ks.map TRoutine.D)) left)) ∧ Bel w w' := szRoutineS_of ks (fun _ _ => szRoutine_any _) S w A c left hR h0 h1
theorem toRoutineS_any (ks : List TRoutine) (S : Nat → Prop) (w : World) (A : Option Addr) (c : Nat) (hR : Row w S 9 A c (ks.map TRoutine.D)) (hwt : ks.length + Dat.wtR (ks.map TRoutine.D) ≤ 1048576) :
  Calls Tryz.prog 19 #[.slice A ks.length c] w (MadeR w 9 (ks.map TRoutine.D)) := toRoutineS_of ks (fun _ _ => toRoutine_any _) S w A c hR hwt
theorem eqRoutineS_any (ks : List TRoutine) (S S' : Nat → Prop) (w : World) (A A' : Option Addr) (c c' : Nat) (hR : Row w S 9 A c (ks.map TRoutine.D)) (hR' : Row w S' 9 A' c' (ks.map TRoutine.D)) :
  Calls Tryz.prog 29 #[.slice A ks.length c, .slice A' ks.length c'] w fun e w' => e = .returned (.bool true) ∧ Bel w w' := eqRoutineS_of ks (fun _ _ => eqRoutine_any _) S S' w A A' c c' hR hR'
end Go.Proofs.YtgofbnmablgedaaGreatDoor
namespace Go.Proofs.YtgofbnmablgedaaGreatDoor
set_option linter.unusedVariables false
set_option linter.unusedSimpArgs false
set_option maxRecDepth 100000
open Go.RowKit
def SzProgram (t : TProgram) : Prop := ∀ (S : Nat → Prop) (w : World) (vs : List Value) (left : Int), Dat.HoldVals w S t.D vs → 0 ≤ left → left ≤ 1048576 →
 Calls Tryz.prog 4 #[.agg vs.toArray, .int .i64 left] w fun e w' => e = .returned (.int .i64 (szL (Dat.wtL t.D) left)) ∧ Bel w w'
def ToProgram (t : TProgram) : Prop := ∀ (S : Nat → Prop) (w : World) (vs : List Value), Dat.HoldVals w S t.D vs → Dat.wtL t.D ≤ 1048576 →
 Calls Tryz.prog 6 #[.agg vs.toArray] w (MadeV w t.D)
def EqProgram (t : TProgram) : Prop := ∀ (S S' : Nat → Prop) (w : World) (vs vs' : List Value), Dat.HoldVals w S t.D vs → Dat.HoldVals w S' t.D vs' →
 Calls Tryz.prog 9 #[.agg vs.toArray, .agg vs'.toArray] w fun e w' => e = .returned (.bool true) ∧ Bel w w'
set_option maxHeartbeats 1000000 in
theorem szProgram_any : ∀ t : TProgram, SzProgram t := by
 rintro ⟨x0, x1, x2, x3⟩
 intro S w vs left hv h0 h1
 obtain ⟨A0, c0, A1, c1, A2, c2, rfl, hR0, hR1, hR2, g3⟩ := TProgram.vals hv
 have R0 := hide hR0
 have R1 := hide hR1
 have R2 := hide hR2
 clear hv hR0 hR1 hR2
 rw [TProgram.D_mk]
 simp only [Dat.wtL, Dat.wt, List.length_map]
 go_enter Tryz.func4, Tryz.ntmps4
 go_wp2_with (fail)
 refine (Calls.szTwo (szRoutineS_any x0 S _ _ _ _ (Row.bel bl R0.out) (by omega) (by omega))).mono ?_
 rintro e w1 ⟨l1, rfl, hl1, hb1⟩
 (have hz1 := hb1.sz; obtain ⟨hk1_0, hf1_0, hl1_0, hn1_0⟩ := hb1.lay (w.heap.size))
 rcases hl1 with ⟨hq1, rfl⟩ | ⟨hq1, hz1'⟩
 ·
  have HQ1 := hide hq1
  clear hq1
  go_wp2_with (fail)
  all_goals
   go_returns
   have HQ1' := HQ1.out
   exact ⟨ret_i64 (by rw [szL_no (by omega)]), bl⟩
 have HQ1 := hide hq1
 have HL1 := hide hz1'
 have ha1 : 0 ≤ l1 := by omega
 have hc1 : l1 ≤ 1048576 := by omega
 clear hq1 hz1'
 go_wp2_with (fail)
 refine (Calls.szTwo (szRecordTypeS_any x1 S _ _ _ _ (Row.bel bl R1.out) (by omega) (by omega))).mono ?_
 rintro e w2 ⟨l2, rfl, hl2, hb2⟩
 (have hz2 := hb2.sz; obtain ⟨hk2_0, hf2_0, hl2_0, hn2_0⟩ := hb2.lay (w.heap.size))
 rcases hl2 with ⟨hq2, rfl⟩ | ⟨hq2, hz2'⟩
 ·
  have HQ2 := hide hq2
  clear hq2
  go_wp2_with (fail)
  all_goals
   go_returns
   have HQ1' := HQ1.out
   have HL1' := HL1.out
   have HQ2' := HQ2.out
   exact ⟨ret_i64 (by rw [szL_no (by omega)]), bl⟩
 have HQ2 := hide hq2
 have HL2 := hide hz2'
 have ha2 : 0 ≤ l2 := by omega
 have hc2 : l2 ≤ 1048576 := by omega
 clear hq2 hz2'
 go_wp2_with (fail)
 refine (Calls.szTwo (szStringS_any x2 S _ _ _ _ (Row.bel bl R2.out) (by omega) (by omega))).mono ?_
 rintro e w3 ⟨l3, rfl, hl3, hb3⟩
 (have hz3 := hb3.sz; obtain ⟨hk3_0, hf3_0, hl3_0, hn3_0⟩ := hb3.lay (w.heap.size))
 rcases hl3 with ⟨hq3, rfl⟩ | ⟨hq3, hz3'⟩
 ·
  have HQ3 := hide hq3
  clear hq3
  go_wp2_with (fail)
  all_goals
   go_returns
   have HQ1' := HQ1.out
   have HL1' := HL1.out
   have HQ2' := HQ2.out
   have HL2' := HL2.out
   have HQ3' := HQ3.out
   exact ⟨ret_i64 (by rw [szL_no (by omega)]), bl⟩
 have HQ3 := hide hq3
 have HL3 := hide hz3'
 have ha3 : 0 ≤ l3 := by omega
 have hc3 : l3 ≤ 1048576 := by omega
 clear hq3 hz3'
 go_wp2_with (fail)
 all_goals
  go_returns
  have HQ1' := HQ1.out
  have HL1' := HL1.out
  have HQ2' := HQ2.out
  have HL2' := HL2.out
  have HQ3' := HQ3.out
  have HL3' := HL3.out
  exact ⟨ret_i64 (by rw [szL_yes (by omega)]; omega), bl⟩
set_option maxHeartbeats 1000000 in
theorem toProgram_any : ∀ t : TProgram, ToProgram t := by
 rintro ⟨x0, x1, x2, x3⟩
 intro S w vs hv hwt
 obtain ⟨A0, c0, A1, c1, A2, c2, rfl, hR0, hR1, hR2, g3⟩ := TProgram.vals hv
 have R0 := hide hR0
 have R1 := hide hR1
 have R2 := hide hR2
 have HW := hide hwt
 rw [TProgram.D_mk] at hwt
 simp only [Dat.wtL, Dat.wt, List.length_map] at hwt
 have hw0 : x0.length + Dat.wtR (x0.map TRoutine.D) ≤ 1048576 := by omega
 have hw1 : x1.length + Dat.wtR (x1.map TRecordType.D) ≤ 1048576 := by omega
 have hw2 : x2.length + Dat.wtR (x2.map (fun x => [Dat.str x])) ≤ 1048576 := by omega
 clear hv hwt hR0 hR1 hR2
 go_enter Tryz.func6, Tryz.ntmps6
 go_wp2_with (fail)
 refine (toRoutineS_any x0 S _ _ _ (Row.bel bl R0.out) hw0).mono ?_
 rintro e w1 ⟨B0, d0, rfl, hQ0, hb1⟩
 (have hz1 := hb1.sz; obtain ⟨hk1_0, hf1_0, hl1_0, hn1_0⟩ := hb1.lay (w.heap.size); obtain ⟨hk1_1, hf1_1, hl1_1, hn1_1⟩ := hb1.lay (w.heap.size + 1); obtain ⟨hk1_2, hf1_2, hl1_2, hn1_2⟩ := hb1.lay (w.heap.size + 1 + 1))
 have Q0 := hide (Row.wide (S' := fun b => w.heap.size + 2 < b) (fun b hb => by (try simp at hb); omega) hQ0)
 clear hQ0
 go_wp2_with (fail)
 refine (toRecordTypeS_any x1 S _ _ _ (Row.bel bl R1.out) hw1).mono ?_
 rintro e w2 ⟨B1, d1, rfl, hQ1, hb2⟩
 (have hz2 := hb2.sz; obtain ⟨hk2_0, hf2_0, hl2_0, hn2_0⟩ := hb2.lay (w.heap.size); obtain ⟨hk2_1, hf2_1, hl2_1, hn2_1⟩ := hb2.lay (w.heap.size + 1); obtain ⟨hk2_2, hf2_2, hl2_2, hn2_2⟩ := hb2.lay (w.heap.size + 1 + 1))
 have Q1 := hide (Row.wide (S' := fun b => w.heap.size + 2 < b) (fun b hb => by (try simp at hb); omega) hQ1)
 clear hQ1
 go_wp2_with (fail)
 refine (toStringS_any x2 S _ _ _ (Row.bel bl R2.out) hw2).mono ?_
 rintro e w3 ⟨B2, d2, rfl, hQ2, hb3⟩
 (have hz3 := hb3.sz; obtain ⟨hk3_0, hf3_0, hl3_0, hn3_0⟩ := hb3.lay (w.heap.size); obtain ⟨hk3_1, hf3_1, hl3_1, hn3_1⟩ := hb3.lay (w.heap.size + 1); obtain ⟨hk3_2, hf3_2, hl3_2, hn3_2⟩ := hb3.lay (w.heap.size + 1 + 1))
 have Q2 := hide (Row.wide (S' := fun b => w.heap.size + 2 < b) (fun b hb => by (try simp at hb); omega) hQ2)
 clear hQ2
 go_wp2_with (fail)
 exact bodyPost_ret (v := .agg #[.slice B0 x0.length d0, .slice B1 x1.length d1, .slice B2 x2.length d2, .int .i64 x3]) (by simp [results, Tryz.results6, go_sem, hk1_1, hf1_1, hk2_1, hf2_1, hk3_1, hf3_1]) rfl
  ⟨[.slice B0 x0.length d0, .slice B1 x1.length d1, .slice B2 x2.length d2, .int .i64 x3], rfl, TProgram.vals_mk (Row.wide (fun b hb => by omega) (Row.off ofl Q0.out)) (Row.wide (fun b hb => by omega) (Row.off ofl Q1.out)) (Row.wide (fun b hb => by omega) (Row.off ofl Q2.out)) g3, bl⟩
set_option maxHeartbeats 1000000 in
theorem eqProgram_any : ∀ t : TProgram, EqProgram t := by
 rintro ⟨x0, x1, x2, x3⟩
 intro S S' w vs vs' hv hv'
 obtain ⟨A0, c0, A1, c1, A2, c2, rfl, hR0, hR1, hR2, g3⟩ := TProgram.vals hv
 obtain ⟨eA0, ec0, eA1, ec1, eA2, ec2, rfl, ehR0, ehR1, ehR2, -⟩ := TProgram.vals hv'
 have R0 := hide hR0
 have R1 := hide hR1
 have R2 := hide hR2
 have T0 := hide ehR0
 have T1 := hide ehR1
 have T2 := hide ehR2
 clear hv hv' hR0 hR1 hR2 ehR0 ehR1 ehR2
 go_enter Tryz.func9, Tryz.ntmps9
 go_wp2_with (first
  | (go_at_call 29; (with_reducible refine (eqRoutineS_any x0 S S' _ _ _ _ _ (Row.bel bl R0.out) (Row.bel bl T0.out)).mono ?_); rintro e w1 ⟨rfl, hb1⟩; have hz1 := hb1.sz; obtain ⟨hk1_0, hf1_0, hl1_0, hn1_0⟩ := hb1.lay (w.heap.size); obtain ⟨hk1_1, hf1_1, hl1_1, hn1_1⟩ := hb1.lay (w.heap.size + 1); (try simp only [VVal.val]))
  | (go_at_call 25; (with_reducible refine (eqRecordTypeS_any x1 S S' _ _ _ _ _ (Row.bel bl R1.out) (Row.bel bl T1.out)).mono ?_); rintro e w2 ⟨rfl, hb2⟩; have hz2 := hb2.sz; obtain ⟨hk2_0, hf2_0, hl2_0, hn2_0⟩ := hb2.lay (w.heap.size); obtain ⟨hk2_1, hf2_1, hl2_1, hn2_1⟩ := hb2.lay (w.heap.size + 1); (try simp only [VVal.val]))
  | (go_at_call 24; (with_reducible refine (eqStringS_any x2 S S' _ _ _ _ _ (Row.bel bl R2.out) (Row.bel bl T2.out)).mono ?_); rintro e w3 ⟨rfl, hb3⟩; have hz3 := hb3.sz; obtain ⟨hk3_0, hf3_0, hl3_0, hn3_0⟩ := hb3.lay (w.heap.size); obtain ⟨hk3_1, hf3_1, hl3_1, hn3_1⟩ := hb3.lay (w.heap.size + 1); (try simp only [VVal.val])))
 all_goals
  go_returns
  exact ⟨rfl, bl⟩
end Go.Proofs.YtgofbnmablgedaaGreatDoor
