/- Slices of texts: what is left behind them, copies, comparison. -/
import Derived.Test.YtgofbnmablgedaaGreatDoorPD
import Derived.Test.YtgofbnmablgedaaGreatDoorPTV
namespace Go.Proofs.YtgofbnmablgedaaGreatDoor
set_option linter.unusedVariables false
set_option linter.unusedSimpArgs false
set_option maxRecDepth 100000
open Go.RowKit
theorem strAt {w : World} {S : Nat → Prop} {A : Option Addr} {c : Nat} {l : List ByteArray} (h : Row w S 1 A c (l.map fun x => [Dat.str x])) (i : Nat) (hi : i < l.length) :
  ∃ b o, A = some ⟨b, o, none⟩ ∧ S b ∧ b < w.heap.size ∧ l[i].size ≤ maxLen ∧ w.cell? ⟨b, o + i, none⟩ = some (.string l[i]) := by
 obtain ⟨b, o, vs, hA, hS, hb, hv, hl, hc⟩ := Row.at h i (by simpa using hi)
 rw [List.getElem_map] at hv
 match vs, hv with
 | [v], hv =>
  obtain ⟨rfl, hs⟩ := Dat.holds_str.1 hv.1
  exact ⟨b, o, hA, hS, hb, hs, by simpa using hc 0 (by decide)⟩
set_option maxHeartbeats 400000 in
theorem szStringS_any (ks : List ByteArray) (S : Nat → Prop) (w : World) (A : Option Addr) (c : Nat) (left : Int) (hR : Row w S 1 A c (ks.map fun x => [Dat.str x])) (h0 : 0 ≤ left) (h1 : left ≤ 1048576) :
  Calls Tryz.prog 15 #[.slice A ks.length c, .int .i64 left] w fun e w' => e = .returned (.int .i64 (szL (ks.length + Dat.wtR (ks.map fun x => [Dat.str x])) left)) ∧ Bel w w' := by
 have HR := hide hR
 have hlen := hR.1
 have hcm := hR.2.1
 simp only [List.length_map] at hlen
 unfold maxLen at hcm
 clear hR
 rcases Int.lt_or_le left ks.length with hn | hn
 ·
  go_enter Tryz.func15, Tryz.ntmps15
  go_wp2_with (fail)
  all_goals
   go_returns
   exact ⟨ret_i64 (by rw [szL_no (by omega)]), bl⟩
 go_enter Tryz.func15, Tryz.ntmps15
 go_wp2_with (fail)
 go_loopw [1, 5] (fun lv iv wr => ∃ k : Nat, k ≤ ks.length ∧ iv = .int .i64 k ∧ lv = .int .i64 (left - ks.length - (Dat.wtR ((ks.map fun x => [Dat.str x]).take k) : Nat)) ∧ 0 ≤ left - ks.length - (Dat.wtR ((ks.map fun x => [Dat.str x]).take k) : Nat) ∧ Bel w wr) (fun _ iv _ => ks.length - (intOf iv).toNat)
 case atStart => exact ⟨0, Nat.zero_le _, rfl, by simp [Dat.wtR], by simp [Dat.wtR]; omega, Bel.refl _⟩
 case round =>
  obtain ⟨k, hk, rfl, rfl, hl0, hbw⟩ := hrel
  rcases Nat.lt_or_ge k ks.length with hlt | hge
  ·
   have hd : decide ((k : Int) < (ks.length : Int)) = true := by simp; omega
   obtain ⟨b1, o1, hA1, hS1, hl1, hz1, c1⟩ := strAt HR.out k hlt
   subst hA1
   replace c1 := (hbw.box b1 hl1 _).trans c1
   unfold maxLen at hz1
   have e1 := hide (Dat.wtR_take (ks.map fun x => [Dat.str x]) k (by simpa using hlt))
   have e2 := hide (Dat.wtR_le (ks.map fun x => [Dat.str x]) (k + 1))
   have e3 : Hid (Dat.wtR ((ks.map fun x => [Dat.str x]).take (k + 1)) = Dat.wtR ((ks.map fun x => [Dat.str x]).take k) + ks[k].size) := by
    show _ = _
    have := e1.out
    rw [List.getElem_map] at this
    simpa [Dat.wtL, Dat.wt] using this
   rcases Int.lt_or_le (left - ks.length - (Dat.wtR ((ks.map fun x => [Dat.str x]).take k) : Nat)) (ks[k].size : Int) with hq | hq
   ·
    go_wp2_with (fail)
    all_goals
     go_returns
     have e2 := e2.out
     have e3 := e3.out
     exact ⟨ret_i64 (by rw [szL_no (by omega)]), bl⟩
   ·
    go_wp2_with (fail)
    all_goals
     go_roundw
     case rel => exact ⟨k + 1, by omega, by go_num, by rw [e3.out]; go_num, by rw [e3.out]; omega, bl⟩
     case measure => simp [intOf]; omega
  ·
   have hd : decide ((k : Int) < (ks.length : Int)) = false := by simp; omega
   go_wp2_with (fail)
   go_returns
   rw [List.take_of_length_le (by simp; omega)] at hl0 ⊢
   exact ⟨ret_i64 (by rw [szL_yes (by omega)]; omega), hbw⟩
set_option maxHeartbeats 400000 in
theorem toStringS_any (ks : List ByteArray) (S : Nat → Prop) (w : World) (A : Option Addr) (c : Nat) (hR : Row w S 1 A c (ks.map fun x => [Dat.str x])) (hwt : ks.length + Dat.wtR (ks.map fun x => [Dat.str x]) ≤ 1048576) :
  Calls Tryz.prog 21 #[.slice A ks.length c] w (MadeR w 1 (ks.map fun x => [Dat.str x])) := by
 have HR := hide hR
 have hlen := hR.1
 have hcm := hR.2.1
 simp only [List.length_map] at hlen
 unfold maxLen at hcm
 clear hR
 obtain ⟨cur, hcur, hmk⟩ := make_rows (P := Tryz.prog) (t := 24) (e := 9) (k := 1) ks.length (by omega) Tryz.underlying24 (by kernel_rfl)
 have HC := hide hcur
 clear hcur
 go_enter Tryz.func21, Tryz.ntmps21
 go_wp2_with (fail)
 have HF := hide (Fill.start w 9 1 ks.length (fun b => w.heap.size < b) HC.out)
 clear hmk
 go_loopw [4] (fun iv wr => ∃ k : Nat, k ≤ ks.length ∧ iv = .int .i64 k ∧ Fill wr w.heap.size 9 1 ks.length (fun b => w.heap.size < b) ((ks.map fun x => [Dat.str x]).take k) ∧ Bel w wr) (fun iv _ => ks.length - (intOf iv).toNat)
 case atStart => exact ⟨0, Nat.zero_le _, rfl, HF.out, bl⟩
 case round =>
  obtain ⟨k, hk, rfl, hF, hbw⟩ := hrel
  have HF1 := hide hF
  have hgl := hF.lt
  clear hF HF
  rcases Nat.lt_or_ge k ks.length with hlt | hge
  ·
   have hd : decide ((k : Int) < (ks.length : Int)) = true := by simp; omega
   have hi0 : 0 ≤ (k : Int) := by omega
   have hi1 : (k : Int) < (ks.length : Int) := by omega
   obtain ⟨b1, o1, hA1, hS1, hl1, hz1, c1⟩ := strAt HR.out k hlt
   subst hA1
   replace c1 := (hbw.box b1 hl1 _).trans c1
   have HZ := hide hz1
   clear hz1
   obtain ⟨y0, e0⟩ := HF1.out.cell (i := k) (by omega)
   have f0 := HF1.out.free k
   go_wp2_with (fail)
   go_roundw
   case rel => exact ⟨k + 1, by omega, by go_num, Fill.snoc1 (S1 := fun _ => False) HF1.out hlt rfl (fun b hb => by omega) ⟨Dat.holds_str.2 ⟨rfl, HZ.out⟩, trivial⟩ (fun b hb => hb.elim), bl⟩
   case measure => simp [intOf]; omega
  ·
   have hd : decide ((k : Int) < (ks.length : Int)) = false := by simp; omega
   go_wp2_with (fail)
   go_returns
   exact ⟨some ⟨w.heap.size, 0, none⟩, ks.length, by rw [List.length_map]; rfl, Fill.done HF1.out hge rfl (by unfold maxLen; omega) (fun b hb => by omega) (by omega), hbw⟩
set_option maxHeartbeats 400000 in
theorem eqStringS_any (ks : List ByteArray) (S S' : Nat → Prop) (w : World) (A A' : Option Addr) (c c' : Nat) (hR : Row w S 1 A c (ks.map fun x => [Dat.str x])) (hR' : Row w S' 1 A' c' (ks.map fun x => [Dat.str x])) :
  Calls Tryz.prog 24 #[.slice A ks.length c, .slice A' ks.length c'] w fun e w' => e = .returned (.bool true) ∧ Bel w w' := by
 have HR := hide hR
 have HR' := hide hR'
 have hlen := hR.1
 have hcm := hR.2.1
 have hlen' := hR'.1
 have hcm' := hR'.2.1
 simp only [List.length_map] at hlen hlen'
 unfold maxLen at hcm hcm'
 clear hR hR'
 go_enter Tryz.func24, Tryz.ntmps24
 go_wp2_with (fail)
 go_loopw [5] (fun iv wr => ∃ k : Nat, k ≤ ks.length ∧ iv = .int .i64 k ∧ Bel w wr) (fun iv _ => ks.length - (intOf iv).toNat)
 case atStart => exact ⟨0, Nat.zero_le _, rfl, Bel.refl _⟩
 case round =>
  obtain ⟨k, hk, rfl, hbw⟩ := hrel
  rcases Nat.lt_or_ge k ks.length with hlt | hge
  ·
   have hd : decide ((k : Int) < (ks.length : Int)) = true := by simp; omega
   have hi0 : 0 ≤ (k : Int) := by omega
   have hi1 : (k : Int) < (ks.length : Int) := by omega
   obtain ⟨b1, o1, hA1, hS1, hl1, hz1, c1⟩ := strAt HR.out k hlt
   obtain ⟨b2, o2, hA2, hS2, hl2, hz2, c2⟩ := strAt HR'.out k hlt
   subst hA1 hA2
   replace c1 := (hbw.box b1 hl1 _).trans c1
   replace c2 := (hbw.box b2 hl2 _).trans c2
   go_wp2_with (fail)
   go_quiet (fail)
   go_wp2_with (fail)
   all_goals
    go_roundw
    case rel => exact ⟨k + 1, by omega, by go_num, bl⟩
    case measure => simp [intOf]; omega
  ·
   have hd : decide ((k : Int) < (ks.length : Int)) = false := by simp; omega
   go_wp2_with (fail)
   go_returns
   exact ⟨rfl, hbw⟩
end Go.Proofs.YtgofbnmablgedaaGreatDoor
namespace Go.Proofs.YtgofbnmablgedaaGreatDoor
set_option linter.unusedVariables false
set_option linter.unusedSimpArgs false
set_option maxRecDepth 100000
open Go.RowKit
def SzRecordType (t : TRecordType) : Prop := ∀ (S : Nat → Prop) (w : World) (vs : List Value) (left : Int), Dat.HoldVals w S t.D vs → 0 ≤ left → left ≤ 1048576 →
 Calls Tryz.prog 42 #[.agg vs.toArray, .int .i64 left] w fun e w' => e = .returned (.int .i64 (szL (Dat.wtL t.D) left)) ∧ Bel w w'
set_option maxHeartbeats 400000 in
theorem szRecordTypeS_of (ks : List TRecordType) (IH : ∀ (i : Nat) (hi : i < ks.length), SzRecordType ks[i]) (S : Nat → Prop) (w : World) (A : Option Addr) (c : Nat) (left : Int) (hR : Row w S 3 A c (ks.map TRecordType.D)) (h0 : 0 ≤ left) (h1 : left ≤ 1048576) :
  Calls Tryz.prog 14 #[.slice A ks.length c, .int .i64 left] w fun e w' => e = .returned (.int .i64 (szL (ks.length + Dat.wtR (ks.map TRecordType.D)) left)) ∧ Bel w w' := by
 have IH' := hide IH
 have HR := hide hR
 have hlen := hR.1
 have hcm := hR.2.1
 simp only [List.length_map] at hlen
 unfold maxLen at hcm
 clear IH hR
 rcases Int.lt_or_le left ks.length with hn | hn
 ·
  go_enter Tryz.func14, Tryz.ntmps14
  go_wp2_with (fail)
  all_goals
   go_returns
   exact ⟨ret_i64 (by rw [szL_no (by omega)]), bl⟩
 go_enter Tryz.func14, Tryz.ntmps14
 go_wp2_with (fail)
 go_loopw [1, 5] (fun lv iv wr => ∃ k : Nat, k ≤ ks.length ∧ iv = .int .i64 k ∧ lv = .int .i64 (left - ks.length - (Dat.wtR ((ks.map TRecordType.D).take k) : Nat)) ∧ 0 ≤ left - ks.length - (Dat.wtR ((ks.map TRecordType.D).take k) : Nat) ∧ Bel w wr) (fun _ iv _ => ks.length - (intOf iv).toNat)
 case atStart => exact ⟨0, Nat.zero_le _, rfl, by simp [Dat.wtR], by simp [Dat.wtR]; omega, Bel.refl _⟩
 case round =>
  obtain ⟨k, hk, rfl, rfl, hl0, hbw⟩ := hrel
  rcases Nat.lt_or_ge k ks.length with hlt | hge
  ·
   have hd : decide ((k : Int) < (ks.length : Int)) = true := by simp; omega
   (obtain ⟨b1, o1, x1_0, x1_1, x1_2, A1_1, C1_1, hA1, hS1, hl1, hx1, hv1, g1_0, g1_1, g1_2, c1_0, c1_1, c1_2⟩ := TRecordType.at HR.out k hlt; subst hA1; have HV1 := hide (Dat.HoldVals.bel hbw hv1); have hh1 := hbw.box b1 hl1; have hw1 := Nat.lt_of_lt_of_le hl1 (Bel.size hbw); replace c1_0 := (hh1 _).trans c1_0; replace c1_1 := (hh1 _).trans c1_1; replace c1_2 := (hh1 _).trans c1_2; have HX1 := hide hx1; have GR1_1 := hide g1_1; clear hh1 hv1 hx1 hS1 g1_1)
   have e1 := hide (Dat.wtR_take (ks.map TRecordType.D) k (by simpa using hlt))
   have e2 := hide (Dat.wtR_le (ks.map TRecordType.D) (k + 1))
   have hl1 : left - ks.length - (Dat.wtR ((ks.map TRecordType.D).take k) : Nat) ≤ 1048576 := by omega
   rcases Int.lt_or_le (left - ks.length - (Dat.wtR ((ks.map TRecordType.D).take k) : Nat)) (Dat.wtL ks[k].D) with hq | hq
   ·
    have HZ := hide (szL_no hq)
    have HQ := hide hq
    clear hq
    go_wp2_with (fail)
    refine (IH'.out k hlt S _ _ _ (Dat.HoldVals.bel bl HV1.out) hl0 hl1).mono ?_
    rintro e w1 ⟨rfl, hb1⟩
    rw [HZ.out]
    go_wp2_with (fail)
    all_goals
     go_returns
     have e1 := e1.out
     have e2 := e2.out
     have hq := HQ.out
     rw [List.getElem_map] at e1
     exact ⟨ret_i64 (by rw [szL_no (by omega)]), bl⟩
   ·
    have HZ := hide (szL_yes (show ¬ left - ks.length - (Dat.wtR ((ks.map TRecordType.D).take k) : Nat) < (Dat.wtL ks[k].D : Nat) by omega))
    go_wp2_with (fail)
    refine (IH'.out k hlt S _ _ _ (Dat.HoldVals.bel bl HV1.out) hl0 hl1).mono ?_
    rintro e w1 ⟨rfl, hb1⟩
    rw [HZ.out]
    go_wp2_with (fail)
    all_goals
     go_roundw
     case rel => exact ⟨k + 1, by omega, by go_num, by have e1 := e1.out; rw [List.getElem_map] at e1; rw [e1]; go_num, by have e1 := e1.out; rw [List.getElem_map] at e1; rw [e1]; omega, bl⟩
     case measure => simp [intOf]; omega
  ·
   have hd : decide ((k : Int) < (ks.length : Int)) = false := by simp; omega
   go_wp2_with (fail)
   go_returns
   rw [List.take_of_length_le (by simp; omega)] at hl0 ⊢
   exact ⟨ret_i64 (by rw [szL_yes (by omega)]; omega), hbw⟩
def ToRecordType (t : TRecordType) : Prop := ∀ (S : Nat → Prop) (w : World) (vs : List Value), Dat.HoldVals w S t.D vs → Dat.wtL t.D ≤ 1048576 →
 Calls Tryz.prog 49 #[.agg vs.toArray] w (MadeV w t.D)
set_option maxHeartbeats 400000 in
theorem toRecordTypeS_of (ks : List TRecordType) (IH : ∀ (i : Nat) (hi : i < ks.length), ToRecordType ks[i]) (S : Nat → Prop) (w : World) (A : Option Addr) (c : Nat) (hR : Row w S 3 A c (ks.map TRecordType.D)) (hwt : ks.length + Dat.wtR (ks.map TRecordType.D) ≤ 1048576) :
    Calls Tryz.prog 20 #[.slice A ks.length c] w (MadeR w 3 (ks.map TRecordType.D)) := by
  have IH' := hide IH
  have HR := hide hR
  have hlen := hR.1
  have hcm := hR.2.1
  simp only [List.length_map] at hlen
  unfold maxLen at hcm
  clear IH hR
  obtain ⟨cur, hcur, hmk⟩ := make_rows (P := Tryz.prog) (t := 28) (e := 85) (k := 3) ks.length (by omega) Tryz.underlying28 (by kernel_rfl)
  have HC := hide hcur
  clear hcur
  have HW := hide hwt
  clear hwt
  go_enter Tryz.func20, Tryz.ntmps20
  go_wp2_with (fail)
  have HM := hide (Bel.refl (w.alloc (.cells cur 85)))
  have HF := hide (Fill.start w 85 3 ks.length (fun b => w.heap.size < b) HC.out)
  clear hmk
  go_loopw [4] (fun iv wr => ∃ k : Nat, k ≤ ks.length ∧ iv = .int .i64 k ∧ Fill wr w.heap.size 85 3 ks.length (fun b => w.heap.size < b) ((ks.map TRecordType.D).take k) ∧ Bel w wr) (fun iv _ => ks.length - (intOf iv).toNat)
  case atStart => exact ⟨0, Nat.zero_le _, rfl, HF.out, bl⟩
  case round =>
    obtain ⟨k, hk, rfl, hF, hbw⟩ := hrel
    have HF1 := hide hF
    have hgl := hF.lt
    clear hF HF
    rcases Nat.lt_or_ge k ks.length with hlt | hge
    · have hd : decide ((k : Int) < (ks.length : Int)) = true := by simp; omega
      have hi0 : 0 ≤ (k : Int) := by omega
      have hi1 : (k : Int) < (ks.length : Int) := by omega
      (obtain ⟨b1, o1, x1_0, x1_1, x1_2, A1_1, C1_1, hA1, hS1, hl1, hx1, hv1, g1_0, g1_1, g1_2, c1_0, c1_1, c1_2⟩ := TRecordType.at HR.out k hlt; subst hA1; have HV1 := hide (Dat.HoldVals.bel hbw hv1); have hh1 := hbw.box b1 hl1; have hw1 := Nat.lt_of_lt_of_le hl1 (Bel.size hbw); replace c1_0 := (hh1 _).trans c1_0; replace c1_1 := (hh1 _).trans c1_1; replace c1_2 := (hh1 _).trans c1_2; have HX1 := hide hx1; have GR1_1 := hide g1_1; clear hh1 hv1 hx1 hS1 g1_1)
      have hw := hide (Dat.wtR_take (ks.map TRecordType.D) k (by simpa using hlt))
      have hw' := hide (Dat.wtR_le (ks.map TRecordType.D) (k + 1))
      have hwk : Dat.wtL ks[k].D ≤ 1048576 := by have a := hw.out; have b := hw'.out; have c := HW.out; rw [List.getElem_map] at a; omega
      go_wp2_with (fail)
      refine (IH'.out k hlt S _ _ (Dat.HoldVals.bel bl HV1.out) hwk).mono ?_
      rintro e w1 ⟨vs', rfl, hv', hb1⟩
      have HV' := hide hv'
      rw [HX1.out] at hv'
      obtain ⟨A1, c1, rfl, -⟩ := TRecordType.vals hv'
      clear hv'
      have HF2 := hide (Fill.bel HF1.out hb1)
      obtain ⟨y0, e0⟩ := HF2.out.cell (i := k * 3) (by omega)
      obtain ⟨y1, e1⟩ := HF2.out.cell (i := k * 3 + 1) (by omega)
      obtain ⟨y2, e2⟩ := HF2.out.cell (i := k * 3 + 2) (by omega)
      have f0 := HF2.out.free (k * 3)
      have f1 := HF2.out.free (k * 3 + 1)
      have f2 := HF2.out.free (k * 3 + 2)
      go_wp2_with (fail)
      go_roundw
      case rel =>
       exact ⟨k + 1, by omega, by go_num, Fill.snoc3 HF2.out hlt rfl (fun b hb => by omega) HV'.out (fun b hb => by omega), bl⟩
      case measure => simp [intOf]; omega
    · have hd : decide ((k : Int) < (ks.length : Int)) = false := by simp; omega
      go_wp2_with (fail)
      go_returns
      exact ⟨some ⟨w.heap.size, 0, none⟩, ks.length, by rw [List.length_map]; rfl, Fill.done HF1.out hge rfl (by unfold maxLen; omega) (fun b hb => by omega) (by omega), hbw⟩
def EqRecordType (t : TRecordType) : Prop := ∀ (S S' : Nat → Prop) (w : World) (vs vs' : List Value), Dat.HoldVals w S t.D vs → Dat.HoldVals w S' t.D vs' →
 Calls Tryz.prog 59 #[.agg vs.toArray, .agg vs'.toArray] w fun e w' => e = .returned (.bool true) ∧ Bel w w'
set_option maxHeartbeats 400000 in
theorem eqRecordTypeS_of (ks : List TRecordType) (IH : ∀ (i : Nat) (hi : i < ks.length), EqRecordType ks[i]) (S S' : Nat → Prop) (w : World) (A A' : Option Addr) (c c' : Nat) (hR : Row w S 3 A c (ks.map TRecordType.D)) (hR' : Row w S' 3 A' c' (ks.map TRecordType.D)) :
  Calls Tryz.prog 25 #[.slice A ks.length c, .slice A' ks.length c'] w fun e w' => e = .returned (.bool true) ∧ Bel w w' := by
 have IH' := hide IH
 have HR := hide hR
 have HR' := hide hR'
 have hlen := hR.1
 have hcm := hR.2.1
 have hlen' := hR'.1
 have hcm' := hR'.2.1
 simp only [List.length_map] at hlen hlen'
 unfold maxLen at hcm hcm'
 clear IH hR hR'
 go_enter Tryz.func25, Tryz.ntmps25
 go_wp2_with (fail)
 go_loopw [5] (fun iv wr => ∃ k : Nat, k ≤ ks.length ∧ iv = .int .i64 k ∧ Bel w wr) (fun iv _ => ks.length - (intOf iv).toNat)
 case atStart => exact ⟨0, Nat.zero_le _, rfl, Bel.refl _⟩
 case round =>
  obtain ⟨k, hk, rfl, hbw⟩ := hrel
  rcases Nat.lt_or_ge k ks.length with hlt | hge
  ·
   have hd : decide ((k : Int) < (ks.length : Int)) = true := by simp; omega
   have hi0 : 0 ≤ (k : Int) := by omega
   have hi1 : (k : Int) < (ks.length : Int) := by omega
   (obtain ⟨b1, o1, x1_0, x1_1, x1_2, A1_1, C1_1, hA1, hS1, hl1, hx1, hv1, g1_0, g1_1, g1_2, c1_0, c1_1, c1_2⟩ := TRecordType.at HR.out k hlt; subst hA1; have HV1 := hide (Dat.HoldVals.bel hbw hv1); have hh1 := hbw.box b1 hl1; have hw1 := Nat.lt_of_lt_of_le hl1 (Bel.size hbw); replace c1_0 := (hh1 _).trans c1_0; replace c1_1 := (hh1 _).trans c1_1; replace c1_2 := (hh1 _).trans c1_2; have HX1 := hide hx1; have GR1_1 := hide g1_1; clear hh1 hv1 hx1 hS1 g1_1)
   (obtain ⟨b2, o2, x2_0, x2_1, x2_2, A2_1, C2_1, hA2, hS2, hl2, hx2, hv2, g2_0, g2_1, g2_2, c2_0, c2_1, c2_2⟩ := TRecordType.at HR'.out k hlt; subst hA2; have HV2 := hide (Dat.HoldVals.bel hbw hv2); have hh2 := hbw.box b2 hl2; have hw2 := Nat.lt_of_lt_of_le hl2 (Bel.size hbw); replace c2_0 := (hh2 _).trans c2_0; replace c2_1 := (hh2 _).trans c2_1; replace c2_2 := (hh2 _).trans c2_2; have HX2 := hide hx2; have GR2_1 := hide g2_1; clear hh2 hv2 hx2 hS2 g2_1)
   have HY := hide (HX1.out.symm.trans HX2.out)
   go_wp2_with (fail)
   go_region_held3 (fun w' => w'.cell? ⟨b1, o1 + k * 3, none⟩ = some (.string x1_0) ∧ w'.cell? ⟨b1, o1 + k * 3 + 1, none⟩ = some (.slice A1_1 x1_1.length C1_1) ∧ w'.cell? ⟨b1, o1 + k * 3 + 2, none⟩ = some (.int .i64 x1_2) ∧ w'.cell? ⟨b2, o2 + k * 3, none⟩ = some (.string x2_0) ∧ w'.cell? ⟨b2, o2 + k * 3 + 1, none⟩ = some (.slice A2_1 x2_1.length C2_1) ∧ w'.cell? ⟨b2, o2 + k * 3 + 2, none⟩ = some (.int .i64 x2_2)) (go_keep) (first | (go_at_call 59; refine (IH'.out k hlt S S' _ _ _ (Dat.HoldVals.bel bl HV1.out) (Dat.HoldVals.bel bl HV2.out)).mono ?_; rintro e w1 ⟨rfl, hb1⟩; have hq1 := hb1.box b1 (by simp; omega); have hq2 := hb1.box b2 (by simp; omega); simp only [World.cell?_drew] at hq1 hq2))
   all_goals
    go_wp2_with (fail)
    go_roundw
    case rel => exact ⟨k + 1, by omega, by go_num, bl⟩
    case measure => simp [intOf]; omega
  ·
   have hd : decide ((k : Int) < (ks.length : Int)) = false := by simp; omega
   go_wp2_with (fail)
   go_returns
   exact ⟨rfl, hbw⟩
set_option maxHeartbeats 1000000 in
theorem szRecordType_any : ∀ t : TRecordType, SzRecordType t := by
 rintro ⟨x0, x1, x2⟩
 intro S w vs left hv h0 h1
 obtain ⟨A1, c1, rfl, g0, hR1, g2⟩ := TRecordType.vals hv
 have R1 := hide hR1
 clear hv hR1
 unfold maxLen at g0
 rw [TRecordType.D_mk]
 simp only [Dat.wtL, Dat.wt, List.length_map]
 go_enter Tryz.func42, Tryz.ntmps42
 rcases Int.lt_or_le (left) (x0.size : Int) with hq0 | hq0
 ·
  go_wp2_with (fail)
  all_goals
   go_returns
   exact ⟨ret_i64 (by rw [szL_no (by omega)]), bl⟩
 go_wp2_with (fail)
 refine (Calls.szTwo (szStringS_any x1 S _ _ _ _ (Row.bel bl R1.out) (by omega) (by omega))).mono ?_
 rintro e w1 ⟨l1, rfl, hl1, hb1⟩
 (have hz1 := hb1.sz; obtain ⟨hk1_0, hf1_0, hl1_0, hn1_0⟩ := hb1.lay (w.heap.size))
 rcases hl1 with ⟨hq1, rfl⟩ | ⟨hq1, hz1'⟩
 ·
  have HQ1 := hide hq1
  clear hq1
  go_wp2_with (fail)
  all_goals
   go_returns
   have HQ1' := HQ1.out
   exact ⟨ret_i64 (by rw [szL_no (by omega)]), bl⟩
 have HQ1 := hide hq1
 have HL1 := hide hz1'
 have ha1 : 0 ≤ l1 := by omega
 have hc1 : l1 ≤ 1048576 := by omega
 clear hq1 hz1'
 go_wp2_with (fail)
 all_goals
  go_returns
  have HQ1' := HQ1.out
  have HL1' := HL1.out
  exact ⟨ret_i64 (by rw [szL_yes (by omega)]; omega), bl⟩
set_option maxHeartbeats 1000000 in
theorem toRecordType_any : ∀ t : TRecordType, ToRecordType t := by
 rintro ⟨x0, x1, x2⟩
 intro S w vs hv hwt
 obtain ⟨A1, c1, rfl, g0, hR1, g2⟩ := TRecordType.vals hv
 have R1 := hide hR1
 have HW := hide hwt
 rw [TRecordType.D_mk] at hwt
 simp only [Dat.wtL, Dat.wt, List.length_map] at hwt
 have hw1 : x1.length + Dat.wtR (x1.map (fun x => [Dat.str x])) ≤ 1048576 := by omega
 clear hv hwt hR1
 unfold maxLen at g0
 go_enter Tryz.func49, Tryz.ntmps49
 go_wp2_with (fail)
 refine (toStringS_any x1 S _ _ _ (Row.bel bl R1.out) hw1).mono ?_
 rintro e w1 ⟨B1, d1, rfl, hQ1, hb1⟩
 (have hz1 := hb1.sz; obtain ⟨hk1_0, hf1_0, hl1_0, hn1_0⟩ := hb1.lay (w.heap.size); obtain ⟨hk1_1, hf1_1, hl1_1, hn1_1⟩ := hb1.lay (w.heap.size + 1); obtain ⟨hk1_2, hf1_2, hl1_2, hn1_2⟩ := hb1.lay (w.heap.size + 1 + 1))
 have Q1 := hide (Row.wide (S' := fun b => w.heap.size + 2 < b) (fun b hb => by simp at hb; omega) hQ1)
 clear hQ1
 go_wp2_with (fail)
 exact bodyPost_ret (v := .agg #[.string x0, .slice B1 x1.length d1, .int .i64 x2]) (by simp [results, Tryz.results49, go_sem, hk1_1, hf1_1]) rfl
  ⟨[.string x0, .slice B1 x1.length d1, .int .i64 x2], rfl, TRecordType.vals_mk g0 (Row.wide (fun b hb => by omega) (Row.off ofl Q1.out)) g2, bl⟩
set_option maxHeartbeats 1000000 in
theorem eqRecordType_any : ∀ t : TRecordType, EqRecordType t := by
 rintro ⟨x0, x1, x2⟩
 intro S S' w vs vs' hv hv'
 obtain ⟨A1, c1, rfl, g0, hR1, g2⟩ := TRecordType.vals hv
 obtain ⟨eA1, ec1, rfl, -, ehR1, -⟩ := TRecordType.vals hv'
 have R1 := hide hR1
 have T1 := hide ehR1
 clear hv hv' hR1 ehR1
 unfold maxLen at g0
 go_enter Tryz.func59, Tryz.ntmps59
 go_wp2_with (first
  | (go_at_call 24; (with_reducible refine (eqStringS_any x1 S S' _ _ _ _ _ (Row.bel bl R1.out) (Row.bel bl T1.out)).mono ?_); rintro e w1 ⟨rfl, hb1⟩; have hz1 := hb1.sz; obtain ⟨hk1_0, hf1_0, hl1_0, hn1_0⟩ := hb1.lay (w.heap.size); obtain ⟨hk1_1, hf1_1, hl1_1, hn1_1⟩ := hb1.lay (w.heap.size + 1); (try simp only [VVal.val])))
 all_goals
  go_returns
  exact ⟨rfl, bl⟩
theorem szRecordTypeS_any (ks : List TRecordType) (S : Nat → Prop) (w : World) (A : Option Addr) (c : Nat) (left : Int) (hR : Row w S 3 A c (ks.map TRecordType.D)) (h0 : 0 ≤ left) (h1 : left ≤ 1048576) :
  Calls Tryz.prog 14 #[.slice A ks.length c, .int .i64 left] w fun e w' => e = .returned (.int .i64 (szL (ks.length + Dat.wtR (ks.map TRecordType.D)) left)) ∧ Bel w w' := szRecordTypeS_of ks (fun _ _ => szRecordType_any _) S w A c left hR h0 h1
theorem toRecordTypeS_any (ks : List TRecordType) (S : Nat → Prop) (w : World) (A : Option Addr) (c : Nat) (hR : Row w S 3 A c (ks.map TRecordType.D)) (hwt : ks.length + Dat.wtR (ks.map TRecordType.D) ≤ 1048576) :
  Calls Tryz.prog 20 #[.slice A ks.length c] w (MadeR w 3 (ks.map TRecordType.D)) := toRecordTypeS_of ks (fun _ _ => toRecordType_any _) S w A c hR hwt
theorem eqRecordTypeS_any (ks : List TRecordType) (S S' : Nat → Prop) (w : World) (A A' : Option Addr) (c c' : Nat) (hR : Row w S 3 A c (ks.map TRecordType.D)) (hR' : Row w S' 3 A' c' (ks.map TRecordType.D)) :
  Calls Tryz.prog 25 #[.slice A ks.length c, .slice A' ks.length c'] w fun e w' => e = .returned (.bool true) ∧ Bel w w' := eqRecordTypeS_of ks (fun _ _ => eqRecordType_any _) S S' w A A' c c' hR hR'
end Go.Proofs.YtgofbnmablgedaaGreatDoor
namespace Go.Proofs.YtgofbnmablgedaaGreatDoor
set_option linter.unusedVariables false
set_option linter.unusedSimpArgs false
set_option maxRecDepth 100000
open Go.RowKit
def EqActive (t : TActive) : Prop := ∀ (S S' : Nat → Prop) (w : World) (vs vs' : List Value), Dat.HoldVals w S t.D vs → Dat.HoldVals w S' t.D vs' →
 Calls Tryz.prog 62 #[.agg vs.toArray, .agg vs'.toArray] w fun e w' => e = .returned (.bool true) ∧ Bel w w'
set_option maxHeartbeats 400000 in
theorem eqActiveS_of (ks : List TActive) (IH : ∀ (i : Nat) (hi : i < ks.length), EqActive ks[i]) (S S' : Nat → Prop) (w : World) (A A' : Option Addr) (c c' : Nat) (hR : Row w S 2 A c (ks.map TActive.D)) (hR' : Row w S' 2 A' c' (ks.map TActive.D)) :
  Calls Tryz.prog 28 #[.slice A ks.length c, .slice A' ks.length c'] w fun e w' => e = .returned (.bool true) ∧ Bel w w' := by
 have IH' := hide IH
 have HR := hide hR
 have HR' := hide hR'
 have hlen := hR.1
 have hcm := hR.2.1
 have hlen' := hR'.1
 have hcm' := hR'.2.1
 simp only [List.length_map] at hlen hlen'
 unfold maxLen at hcm hcm'
 clear IH hR hR'
 go_enter Tryz.func28, Tryz.ntmps28
 go_wp2_with (fail)
 go_loopw [5] (fun iv wr => ∃ k : Nat, k ≤ ks.length ∧ iv = .int .i64 k ∧ Bel w wr) (fun iv _ => ks.length - (intOf iv).toNat)
 case atStart => exact ⟨0, Nat.zero_le _, rfl, Bel.refl _⟩
 case round =>
  obtain ⟨k, hk, rfl, hbw⟩ := hrel
  rcases Nat.lt_or_ge k ks.length with hlt | hge
  ·
   have hd : decide ((k : Int) < (ks.length : Int)) = true := by simp; omega
   have hi0 : 0 ≤ (k : Int) := by omega
   have hi1 : (k : Int) < (ks.length : Int) := by omega
   (obtain ⟨b1, o1, x1_0, x1_1, hA1, hS1, hl1, hx1, hv1, g1_0, g1_1, c1_0, c1_1⟩ := TActive.at HR.out k hlt; subst hA1; have HV1 := hide (Dat.HoldVals.bel hbw hv1); have hh1 := hbw.box b1 hl1; have hw1 := Nat.lt_of_lt_of_le hl1 (Bel.size hbw); replace c1_0 := (hh1 _).trans c1_0; replace c1_1 := (hh1 _).trans c1_1; have HX1 := hide hx1; clear hh1 hv1 hx1 hS1)
   (obtain ⟨b2, o2, x2_0, x2_1, hA2, hS2, hl2, hx2, hv2, g2_0, g2_1, c2_0, c2_1⟩ := TActive.at HR'.out k hlt; subst hA2; have HV2 := hide (Dat.HoldVals.bel hbw hv2); have hh2 := hbw.box b2 hl2; have hw2 := Nat.lt_of_lt_of_le hl2 (Bel.size hbw); replace c2_0 := (hh2 _).trans c2_0; replace c2_1 := (hh2 _).trans c2_1; have HX2 := hide hx2; clear hh2 hv2 hx2 hS2)
   have HY := hide (HX1.out.symm.trans HX2.out)
   go_wp2_with (fail)
   go_region_held3 (fun w' => w'.cell? ⟨b1, o1 + k * 2, none⟩ = some (.int .i64 x1_0) ∧ w'.cell? ⟨b1, o1 + k * 2 + 1, none⟩ = some (.int .i64 x1_1) ∧ w'.cell? ⟨b2, o2 + k * 2, none⟩ = some (.int .i64 x2_0) ∧ w'.cell? ⟨b2, o2 + k * 2 + 1, none⟩ = some (.int .i64 x2_1)) (go_keep) (first | (go_at_call 62; refine (IH'.out k hlt S S' _ _ _ (Dat.HoldVals.bel bl HV1.out) (Dat.HoldVals.bel bl HV2.out)).mono ?_; rintro e w1 ⟨rfl, hb1⟩; have hq1 := hb1.box b1 (by simp; omega); have hq2 := hb1.box b2 (by simp; omega); simp only [World.cell?_drew] at hq1 hq2))
   all_goals
    go_wp2_with (fail)
    go_roundw
    case rel => exact ⟨k + 1, by omega, by go_num, bl⟩
    case measure => simp [intOf]; omega
  ·
   have hd : decide ((k : Int) < (ks.length : Int)) = false := by simp; omega
   go_wp2_with (fail)
   go_returns
   exact ⟨rfl, hbw⟩
set_option maxHeartbeats 1000000 in
theorem eqActive_any : ∀ t : TActive, EqActive t := by
 rintro ⟨x0, x1⟩
 intro S S' w vs vs' hv hv'
 obtain ⟨rfl, g0, g1⟩ := TActive.vals hv
 obtain ⟨rfl, -, -⟩ := TActive.vals hv'
 clear hv hv'
 go_enter Tryz.func62, Tryz.ntmps62
 go_wp2_with (fail)
 all_goals
  go_returns
  exact ⟨rfl, bl⟩
theorem eqActiveS_any (ks : List TActive) (S S' : Nat → Prop) (w : World) (A A' : Option Addr) (c c' : Nat) (hR : Row w S 2 A c (ks.map TActive.D)) (hR' : Row w S' 2 A' c' (ks.map TActive.D)) :
  Calls Tryz.prog 28 #[.slice A ks.length c, .slice A' ks.length c'] w fun e w' => e = .returned (.bool true) ∧ Bel w w' := eqActiveS_of ks (fun _ _ => eqActive_any _) S S' w A A' c c' hR hR'
end Go.Proofs.YtgofbnmablgedaaGreatDoor
namespace Go.Proofs.YtgofbnmablgedaaGreatDoor
set_option linter.unusedVariables false
set_option linter.unusedSimpArgs false
set_option maxRecDepth 100000
open Go.RowKit
def EqValue (t : TValue) : Prop := ∀ (S S' : Nat → Prop) (w : World) (vs vs' : List Value), Dat.HoldVals w S t.D vs → Dat.HoldVals w S' t.D vs' →
 Calls Tryz.prog 61 #[.agg vs.toArray, .agg vs'.toArray] w fun e w' => e = .returned (.bool true) ∧ Bel w w'
set_option maxHeartbeats 400000 in
theorem eqValueS_of (ks : List TValue) (IH : ∀ (i : Nat) (hi : i < ks.length), EqValue ks[i]) (S S' : Nat → Prop) (w : World) (A A' : Option Addr) (c c' : Nat) (hR : Row w S 6 A c (ks.map TValue.D)) (hR' : Row w S' 6 A' c' (ks.map TValue.D)) :
  Calls Tryz.prog 27 #[.slice A ks.length c, .slice A' ks.length c'] w fun e w' => e = .returned (.bool true) ∧ Bel w w' := by
 have IH' := hide IH
 have HR := hide hR
 have HR' := hide hR'
 have hlen := hR.1
 have hcm := hR.2.1
 have hlen' := hR'.1
 have hcm' := hR'.2.1
 simp only [List.length_map] at hlen hlen'
 unfold maxLen at hcm hcm'
 clear IH hR hR'
 go_enter Tryz.func27, Tryz.ntmps27
 go_wp2_with (fail)
 go_loopw [5] (fun iv wr => ∃ k : Nat, k ≤ ks.length ∧ iv = .int .i64 k ∧ Bel w wr) (fun iv _ => ks.length - (intOf iv).toNat)
 case atStart => exact ⟨0, Nat.zero_le _, rfl, Bel.refl _⟩
 case round =>
  obtain ⟨k, hk, rfl, hbw⟩ := hrel
  rcases Nat.lt_or_ge k ks.length with hlt | hge
  ·
   have hd : decide ((k : Int) < (ks.length : Int)) = true := by simp; omega
   have hi0 : 0 ≤ (k : Int) := by omega
   have hi1 : (k : Int) < (ks.length : Int) := by omega
   (obtain ⟨b1, o1, x1_0, x1_1, x1_2, x1_3, x1_4, x1_5, hA1, hS1, hl1, hx1, hv1, g1_0, g1_1, g1_2, g1_3, g1_4, g1_5, c1_0, c1_1, c1_2, c1_3, c1_4, c1_5⟩ := TValue.at HR.out k hlt; subst hA1; have HV1 := hide (Dat.HoldVals.bel hbw hv1); have hh1 := hbw.box b1 hl1; have hw1 := Nat.lt_of_lt_of_le hl1 (Bel.size hbw); replace c1_0 := (hh1 _).trans c1_0; replace c1_1 := (hh1 _).trans c1_1; replace c1_2 := (hh1 _).trans c1_2; replace c1_3 := (hh1 _).trans c1_3; replace c1_4 := (hh1 _).trans c1_4; replace c1_5 := (hh1 _).trans c1_5; have HX1 := hide hx1; clear hh1 hv1 hx1 hS1)
   (obtain ⟨b2, o2, x2_0, x2_1, x2_2, x2_3, x2_4, x2_5, hA2, hS2, hl2, hx2, hv2, g2_0, g2_1, g2_2, g2_3, g2_4, g2_5, c2_0, c2_1, c2_2, c2_3, c2_4, c2_5⟩ := TValue.at HR'.out k hlt; subst hA2; have HV2 := hide (Dat.HoldVals.bel hbw hv2); have hh2 := hbw.box b2 hl2; have hw2 := Nat.lt_of_lt_of_le hl2 (Bel.size hbw); replace c2_0 := (hh2 _).trans c2_0; replace c2_1 := (hh2 _).trans c2_1; replace c2_2 := (hh2 _).trans c2_2; replace c2_3 := (hh2 _).trans c2_3; replace c2_4 := (hh2 _).trans c2_4; replace c2_5 := (hh2 _).trans c2_5; have HX2 := hide hx2; clear hh2 hv2 hx2 hS2)
   have HY := hide (HX1.out.symm.trans HX2.out)
   go_wp2_with (fail)
   go_region_held3 (fun w' => w'.cell? ⟨b1, o1 + k * 6, none⟩ = some (.int .i64 x1_0) ∧ w'.cell? ⟨b1, o1 + k * 6 + 1, none⟩ = some (.int .i64 x1_1) ∧ w'.cell? ⟨b1, o1 + k * 6 + 2, none⟩ = some (.int .i64 x1_2) ∧ w'.cell? ⟨b1, o1 + k * 6 + 3, none⟩ = some (.string x1_3) ∧ w'.cell? ⟨b1, o1 + k * 6 + 4, none⟩ = some (.int .i64 x1_4) ∧ w'.cell? ⟨b1, o1 + k * 6 + 5, none⟩ = some (.int .i64 x1_5) ∧ w'.cell? ⟨b2, o2 + k * 6, none⟩ = some (.int .i64 x2_0) ∧ w'.cell? ⟨b2, o2 + k * 6 + 1, none⟩ = some (.int .i64 x2_1) ∧ w'.cell? ⟨b2, o2 + k * 6 + 2, none⟩ = some (.int .i64 x2_2) ∧ w'.cell? ⟨b2, o2 + k * 6 + 3, none⟩ = some (.string x2_3) ∧ w'.cell? ⟨b2, o2 + k * 6 + 4, none⟩ = some (.int .i64 x2_4) ∧ w'.cell? ⟨b2, o2 + k * 6 + 5, none⟩ = some (.int .i64 x2_5)) (go_keep) (first | (go_at_call 61; refine (IH'.out k hlt S S' _ _ _ (Dat.HoldVals.bel bl HV1.out) (Dat.HoldVals.bel bl HV2.out)).mono ?_; rintro e w1 ⟨rfl, hb1⟩; have hq1 := hb1.box b1 (by simp; omega); have hq2 := hb1.box b2 (by simp; omega); simp only [World.cell?_drew] at hq1 hq2))
   all_goals
    go_wp2_with (fail)
    go_roundw
    case rel => exact ⟨k + 1, by omega, by go_num, bl⟩
    case measure => simp [intOf]; omega
  ·
   have hd : decide ((k : Int) < (ks.length : Int)) = false := by simp; omega
   go_wp2_with (fail)
   go_returns
   exact ⟨rfl, hbw⟩
set_option maxHeartbeats 1000000 in
theorem eqValT_any : ∀ t : TValue, EqValue t := by
 rintro ⟨x0, x1, x2, x3, x4, x5⟩
 intro S S' w vs vs' hv hv'
 obtain ⟨rfl, g0, g1, g2, g3, g4, g5⟩ := TValue.vals hv
 obtain ⟨rfl, -, -, -, -, -, -⟩ := TValue.vals hv'
 clear hv hv'
 unfold maxLen at g3
 go_enter Tryz.func61, Tryz.ntmps61
 go_wp2_with (first
  | (go_at_call 84; (with_reducible refine (eqCset_same x4 x5 _).mono ?_); rintro e w1 ⟨rfl, hb1⟩; have hz1 := hb1.sz; obtain ⟨hk1_0, hf1_0, hl1_0, hn1_0⟩ := hb1.lay (w.heap.size); obtain ⟨hk1_1, hf1_1, hl1_1, hn1_1⟩ := hb1.lay (w.heap.size + 1); (try simp only [VVal.val])))
 all_goals
  go_returns
  exact ⟨rfl, bl⟩
theorem eqValueS_any (ks : List TValue) (S S' : Nat → Prop) (w : World) (A A' : Option Addr) (c c' : Nat) (hR : Row w S 6 A c (ks.map TValue.D)) (hR' : Row w S' 6 A' c' (ks.map TValue.D)) :
  Calls Tryz.prog 27 #[.slice A ks.length c, .slice A' ks.length c'] w fun e w' => e = .returned (.bool true) ∧ Bel w w' := eqValueS_of ks (fun _ _ => eqValT_any _) S S' w A A' c c' hR hR'
end Go.Proofs.YtgofbnmablgedaaGreatDoor
namespace Go.Proofs.YtgofbnmablgedaaGreatDoor
set_option linter.unusedVariables false
set_option linter.unusedSimpArgs false
set_option maxRecDepth 100000
open Go.RowKit
def EqObject (t : TObject) : Prop := ∀ (S S' : Nat → Prop) (w : World) (vs vs' : List Value), Dat.HoldVals w S t.D vs → Dat.HoldVals w S' t.D vs' →
 Calls Tryz.prog 60 #[.agg vs.toArray, .agg vs'.toArray] w fun e w' => e = .returned (.bool true) ∧ Bel w w'
set_option maxHeartbeats 400000 in
theorem eqObjectS_of (ks : List TObject) (IH : ∀ (i : Nat) (hi : i < ks.length), EqObject ks[i]) (S S' : Nat → Prop) (w : World) (A A' : Option Addr) (c c' : Nat) (hR : Row w S 5 A c (ks.map TObject.D)) (hR' : Row w S' 5 A' c' (ks.map TObject.D)) :
  Calls Tryz.prog 26 #[.slice A ks.length c, .slice A' ks.length c'] w fun e w' => e = .returned (.bool true) ∧ Bel w w' := by
 have IH' := hide IH
 have HR := hide hR
 have HR' := hide hR'
 have hlen := hR.1
 have hcm := hR.2.1
 have hlen' := hR'.1
 have hcm' := hR'.2.1
 simp only [List.length_map] at hlen hlen'
 unfold maxLen at hcm hcm'
 clear IH hR hR'
 go_enter Tryz.func26, Tryz.ntmps26
 go_wp2_with (fail)
 go_loopw [5] (fun iv wr => ∃ k : Nat, k ≤ ks.length ∧ iv = .int .i64 k ∧ Bel w wr) (fun iv _ => ks.length - (intOf iv).toNat)
 case atStart => exact ⟨0, Nat.zero_le _, rfl, Bel.refl _⟩
 case round =>
  obtain ⟨k, hk, rfl, hbw⟩ := hrel
  rcases Nat.lt_or_ge k ks.length with hlt | hge
  ·
   have hd : decide ((k : Int) < (ks.length : Int)) = true := by simp; omega
   have hi0 : 0 ≤ (k : Int) := by omega
   have hi1 : (k : Int) < (ks.length : Int) := by omega
   (obtain ⟨b1, o1, x1_0, x1_1, x1_2, x1_3, x1_4, A1_3, C1_3, A1_4, C1_4, hA1, hS1, hl1, hx1, hv1, g1_0, g1_1, g1_2, g1_3, g1_4, c1_0, c1_1, c1_2, c1_3, c1_4⟩ := TObject.at HR.out k hlt; subst hA1; have HV1 := hide (Dat.HoldVals.bel hbw hv1); have hh1 := hbw.box b1 hl1; have hw1 := Nat.lt_of_lt_of_le hl1 (Bel.size hbw); replace c1_0 := (hh1 _).trans c1_0; replace c1_1 := (hh1 _).trans c1_1; replace c1_2 := (hh1 _).trans c1_2; replace c1_3 := (hh1 _).trans c1_3; replace c1_4 := (hh1 _).trans c1_4; have HX1 := hide hx1; have GR1_3 := hide g1_3; have GR1_4 := hide g1_4; clear hh1 hv1 hx1 hS1 g1_3 g1_4)
   (obtain ⟨b2, o2, x2_0, x2_1, x2_2, x2_3, x2_4, A2_3, C2_3, A2_4, C2_4, hA2, hS2, hl2, hx2, hv2, g2_0, g2_1, g2_2, g2_3, g2_4, c2_0, c2_1, c2_2, c2_3, c2_4⟩ := TObject.at HR'.out k hlt; subst hA2; have HV2 := hide (Dat.HoldVals.bel hbw hv2); have hh2 := hbw.box b2 hl2; have hw2 := Nat.lt_of_lt_of_le hl2 (Bel.size hbw); replace c2_0 := (hh2 _).trans c2_0; replace c2_1 := (hh2 _).trans c2_1; replace c2_2 := (hh2 _).trans c2_2; replace c2_3 := (hh2 _).trans c2_3; replace c2_4 := (hh2 _).trans c2_4; have HX2 := hide hx2; have GR2_3 := hide g2_3; have GR2_4 := hide g2_4; clear hh2 hv2 hx2 hS2 g2_3 g2_4)
   have HY := hide (HX1.out.symm.trans HX2.out)
   go_wp2_with (fail)
   go_region_held3 (fun w' => w'.cell? ⟨b1, o1 + k * 5, none⟩ = some (.int .i64 x1_0) ∧ w'.cell? ⟨b1, o1 + k * 5 + 1, none⟩ = some (.int .i64 x1_1) ∧ w'.cell? ⟨b1, o1 + k * 5 + 2, none⟩ = some (.int .i64 x1_2) ∧ w'.cell? ⟨b1, o1 + k * 5 + 3, none⟩ = some (.slice A1_3 x1_3.length C1_3) ∧ w'.cell? ⟨b1, o1 + k * 5 + 4, none⟩ = some (.slice A1_4 x1_4.length C1_4) ∧ w'.cell? ⟨b2, o2 + k * 5, none⟩ = some (.int .i64 x2_0) ∧ w'.cell? ⟨b2, o2 + k * 5 + 1, none⟩ = some (.int .i64 x2_1) ∧ w'.cell? ⟨b2, o2 + k * 5 + 2, none⟩ = some (.int .i64 x2_2) ∧ w'.cell? ⟨b2, o2 + k * 5 + 3, none⟩ = some (.slice A2_3 x2_3.length C2_3) ∧ w'.cell? ⟨b2, o2 + k * 5 + 4, none⟩ = some (.slice A2_4 x2_4.length C2_4)) (go_keep) (first | (go_at_call 60; refine (IH'.out k hlt S S' _ _ _ (Dat.HoldVals.bel bl HV1.out) (Dat.HoldVals.bel bl HV2.out)).mono ?_; rintro e w1 ⟨rfl, hb1⟩; have hq1 := hb1.box b1 (by simp; omega); have hq2 := hb1.box b2 (by simp; omega); simp only [World.cell?_drew] at hq1 hq2))
   all_goals
    go_wp2_with (fail)
    go_roundw
    case rel => exact ⟨k + 1, by omega, by go_num, bl⟩
    case measure => simp [intOf]; omega
  ·
   have hd : decide ((k : Int) < (ks.length : Int)) = false := by simp; omega
   go_wp2_with (fail)
   go_returns
   exact ⟨rfl, hbw⟩
set_option maxHeartbeats 1000000 in
theorem eqObject_any : ∀ t : TObject, EqObject t := by
 rintro ⟨x0, x1, x2, x3, x4⟩
 intro S S' w vs vs' hv hv'
 obtain ⟨A3, c3, A4, c4, rfl, g0, g1, g2, hR3, hR4⟩ := TObject.vals hv
 obtain ⟨eA3, ec3, eA4, ec4, rfl, -, -, -, ehR3, ehR4⟩ := TObject.vals hv'
 have R3 := hide hR3
 have R4 := hide hR4
 have T3 := hide ehR3
 have T4 := hide ehR4
 clear hv hv' hR3 hR4 ehR3 ehR4
 go_enter Tryz.func60, Tryz.ntmps60
 go_wp2_with (first
  | (go_at_call 27; (with_reducible refine (eqValueS_any x3 S S' _ _ _ _ _ (Row.bel bl R3.out) (Row.bel bl T3.out)).mono ?_); rintro e w1 ⟨rfl, hb1⟩; have hz1 := hb1.sz; obtain ⟨hk1_0, hf1_0, hl1_0, hn1_0⟩ := hb1.lay (w.heap.size); obtain ⟨hk1_1, hf1_1, hl1_1, hn1_1⟩ := hb1.lay (w.heap.size + 1); (try simp only [VVal.val]))
  | (go_at_call 27; (with_reducible refine (eqValueS_any x4 S S' _ _ _ _ _ (Row.bel bl R4.out) (Row.bel bl T4.out)).mono ?_); rintro e w2 ⟨rfl, hb2⟩; have hz2 := hb2.sz; obtain ⟨hk2_0, hf2_0, hl2_0, hn2_0⟩ := hb2.lay (w.heap.size); obtain ⟨hk2_1, hf2_1, hl2_1, hn2_1⟩ := hb2.lay (w.heap.size + 1); (try simp only [VVal.val])))
 all_goals
  go_returns
  exact ⟨rfl, bl⟩
theorem eqObjectS_any (ks : List TObject) (S S' : Nat → Prop) (w : World) (A A' : Option Addr) (c c' : Nat) (hR : Row w S 5 A c (ks.map TObject.D)) (hR' : Row w S' 5 A' c' (ks.map TObject.D)) :
  Calls Tryz.prog 26 #[.slice A ks.length c, .slice A' ks.length c'] w fun e w' => e = .returned (.bool true) ∧ Bel w w' := eqObjectS_of ks (fun _ _ => eqObject_any _) S S' w A A' c c' hR hR'
end Go.Proofs.YtgofbnmablgedaaGreatDoor
