/- How many case expressions lie in an expression: both sides. -/
import Derived.Test.YtdacpljinffnaaaDoorPYs
namespace Go.Proofs.YtdacpljinffnaaaDoor
set_option linter.unusedVariables false
set_option linter.unusedSimpArgs false
set_option maxRecDepth 100000
open Go.RowKit
abbrev CasC (f : FuncId) (t : TExpr) : Prop := ∀ (S : Nat → Prop) (w : World) (vs : List Value), Dat.HoldVals w S t.D vs → t.cnt ≤ 4000000 →
 Calls Tryd.prog f #[.agg vs.toArray] w fun e w' => e = .returned (.int .i64 (t.cas : Int)) ∧ Bel w w'
set_option maxHeartbeats 4000000 in
theorem l9Cases_mk (k n li : Int) (t : ByteArray) (ks : List TExpr) (IH : ∀ (i : Nat) (hi : i < ks.length), CasC 21 ks[i]) : CasC 21 (.mk k t n li ks) := by
 intro S w vs hv hc
 have IH' := hide IH
 obtain ⟨A, c, rfl, -, -, -, -, hR⟩ := TExpr.vals hv
 have HR := hide hR
 have hlc := HR.out.1
 have hcm := HR.out.2.1
 simp only [List.length_map] at hlc
 unfold maxLen at hcm
 have HC := hide (show 1 + TExpr.cnts ks ≤ 4000000 by simpa only [TExpr.cnt] using hc)
 clear IH hR hv hc
 by_cases k20 : k = 20
 case pos =>
  have k20b : (k == 20) = true := by rw [beq_iff_eq]; exact k20
  have HE := hide (show (TExpr.mk k t n li ks).cas = 1 + TExpr.cass ks by simp only [TExpr.cas]; rw [if_pos k20])
  clear k20
  go_enter Tryd.func21, Tryd.ntmps21
  go_wp2_with (fail)
  go_loopw [3, 4] (fun sv iv wr => ∃ m s : Nat, iv = .int .i64 m ∧ sv = .int .i64 s ∧ m ≤ ks.length ∧ Hid (s = 1 + TExpr.cass (ks.take m)) ∧ Bel (w.alloc (.cells #[.int .i64 k, .string t, .int .i64 n, .int .i64 li, .slice A ks.length c] 42)) wr) (fun _ iv _ => ks.length - (intOf iv).toNat)
  case atStart => exact ⟨0, 1, rfl, rfl, by omega, hide (by simp [TExpr.cass]), bl⟩
  case round => as_aux_lemma =>
   obtain ⟨m, s, rfl, rfl, hm, hs, hbx⟩ := hrel
   have hz0 := hbx.size
   simp only [World.size_alloc] at hz0
   have x0 := hbx.box w.heap.size (by simp)
   have hq0 : ¬ w.heap.size = wr.heap.size := by omega
   have hl0 : w.heap.size < wr.heap.size := by omega
   have p4 : wr.cell? ⟨w.heap.size, 4, none⟩ = some (.slice A ks.length c) := (x0 4).trans (by simp)
   by_cases h1 : m < ks.length
   case neg =>
    have hd : decide ((m : Int) < (ks.length : Int)) = false := by simp; omega
    have RR := hide (show s = (TExpr.mk k t n li ks).cas by rw [hs.out, HE.out, List.take_of_length_le (by omega)])
    clear hs
    go_wp2_with (fail)
    all_goals
     go_returns
     exact ⟨by rw [← RR.out]; rfl, bl⟩
   case pos =>
   have hd : decide ((m : Int) < (ks.length : Int)) = true := by simp; omega
   have hbw : Bel w wr := bl
   have HCM := hide (show ks[m].cnt ≤ 4000000 ∧ s + ks[m].cas ≤ 4000000 ∧ s + ks[m].cas = 1 + TExpr.cass (ks.take (m + 1)) by
    have a1 := TExpr.cnts_take ks m h1
    have a2 := TExpr.cnts_le ks (m + 1)
    have a3 := TExpr.cass_take ks m h1
    have a4 := TExpr.cass_some ks (m + 1)
    have a5 := TExpr.cass_le ks
    have a6 := HC.out
    have a7 := hs.out
    omega)
   obtain ⟨q, hq⟩ : ∃ q, ks[m].cas = q := ⟨_, rfl⟩
   have HQ := hide hq
   have HCN := hide HCM.out.1
   have hb2 := HCM.out.2.1
   have HNX := hide HCM.out.2.2
   rw [hq] at hb2
   have HNX2 := hide (show s + q = 1 + TExpr.cass (ks.take (m + 1)) by rw [← hq]; exact HNX.out)
   clear hq hs HCM HNX
   (obtain ⟨b1, o1, x1_0, x1_1, x1_2, x1_3, x1_4, A1_4, C1_4, hA1, hS1, hl1, hx1, hv1, g1_0, g1_1, g1_2, g1_3, g1_4, c1_0, c1_1, c1_2, c1_3, c1_4⟩ := TExpr.at HR.out m h1; subst hA1; have HV1 := hide (Dat.HoldVals.bel hbw hv1); have hh1 := hbw.box b1 hl1; have hw1 := Nat.lt_of_lt_of_le hl1 (Bel.size hbw); replace c1_0 := (hh1 _).trans c1_0; replace c1_1 := (hh1 _).trans c1_1; replace c1_2 := (hh1 _).trans c1_2; replace c1_3 := (hh1 _).trans c1_3; replace c1_4 := (hh1 _).trans c1_4; have HX1 := hide hx1; have GR1_4 := hide g1_4; clear hh1 hv1 hx1 hS1 g1_4)
   have hne1 : ¬ b1 = wr.heap.size := by omega
   go_wp2_with (go_at_call 21; (with_reducible refine (IH'.out m h1 S _ _ (Dat.HoldVals.bel bl HV1.out) HCN.out).mono ?_); rintro e w3 ⟨rfl, hb3⟩; rw [HQ.out])
   go_roundw
   case rel => exact ⟨m + 1, s + q, by go_num, by go_num, by omega, hide HNX2.out, bl⟩
   case measure => simp [intOf]; omega
 case neg =>
  have k20b : (k == 20) = false := by rw [beq_eq_false_iff_ne]; exact k20
  have HE := hide (show (TExpr.mk k t n li ks).cas = 0 + TExpr.cass ks by simp only [TExpr.cas]; rw [if_neg k20])
  clear k20
  go_enter Tryd.func21, Tryd.ntmps21
  go_wp2_with (fail)
  go_loopw [3, 4] (fun sv iv wr => ∃ m s : Nat, iv = .int .i64 m ∧ sv = .int .i64 s ∧ m ≤ ks.length ∧ Hid (s = 0 + TExpr.cass (ks.take m)) ∧ Bel (w.alloc (.cells #[.int .i64 k, .string t, .int .i64 n, .int .i64 li, .slice A ks.length c] 42)) wr) (fun _ iv _ => ks.length - (intOf iv).toNat)
  case atStart => exact ⟨0, 0, rfl, rfl, by omega, hide (by simp [TExpr.cass]), bl⟩
  case round => as_aux_lemma =>
   obtain ⟨m, s, rfl, rfl, hm, hs, hbx⟩ := hrel
   have hz0 := hbx.size
   simp only [World.size_alloc] at hz0
   have x0 := hbx.box w.heap.size (by simp)
   have hq0 : ¬ w.heap.size = wr.heap.size := by omega
   have hl0 : w.heap.size < wr.heap.size := by omega
   have p4 : wr.cell? ⟨w.heap.size, 4, none⟩ = some (.slice A ks.length c) := (x0 4).trans (by simp)
   by_cases h1 : m < ks.length
   case neg =>
    have hd : decide ((m : Int) < (ks.length : Int)) = false := by simp; omega
    have RR := hide (show s = (TExpr.mk k t n li ks).cas by rw [hs.out, HE.out, List.take_of_length_le (by omega)])
    clear hs
    go_wp2_with (fail)
    all_goals
     go_returns
     exact ⟨by rw [← RR.out]; rfl, bl⟩
   case pos =>
   have hd : decide ((m : Int) < (ks.length : Int)) = true := by simp; omega
   have hbw : Bel w wr := bl
   have HCM := hide (show ks[m].cnt ≤ 4000000 ∧ s + ks[m].cas ≤ 4000000 ∧ s + ks[m].cas = 0 + TExpr.cass (ks.take (m + 1)) by
    have a1 := TExpr.cnts_take ks m h1
    have a2 := TExpr.cnts_le ks (m + 1)
    have a3 := TExpr.cass_take ks m h1
    have a4 := TExpr.cass_some ks (m + 1)
    have a5 := TExpr.cass_le ks
    have a6 := HC.out
    have a7 := hs.out
    omega)
   obtain ⟨q, hq⟩ : ∃ q, ks[m].cas = q := ⟨_, rfl⟩
   have HQ := hide hq
   have HCN := hide HCM.out.1
   have hb2 := HCM.out.2.1
   have HNX := hide HCM.out.2.2
   rw [hq] at hb2
   have HNX2 := hide (show s + q = 0 + TExpr.cass (ks.take (m + 1)) by rw [← hq]; exact HNX.out)
   clear hq hs HCM HNX
   (obtain ⟨b1, o1, x1_0, x1_1, x1_2, x1_3, x1_4, A1_4, C1_4, hA1, hS1, hl1, hx1, hv1, g1_0, g1_1, g1_2, g1_3, g1_4, c1_0, c1_1, c1_2, c1_3, c1_4⟩ := TExpr.at HR.out m h1; subst hA1; have HV1 := hide (Dat.HoldVals.bel hbw hv1); have hh1 := hbw.box b1 hl1; have hw1 := Nat.lt_of_lt_of_le hl1 (Bel.size hbw); replace c1_0 := (hh1 _).trans c1_0; replace c1_1 := (hh1 _).trans c1_1; replace c1_2 := (hh1 _).trans c1_2; replace c1_3 := (hh1 _).trans c1_3; replace c1_4 := (hh1 _).trans c1_4; have HX1 := hide hx1; have GR1_4 := hide g1_4; clear hh1 hv1 hx1 hS1 g1_4)
   have hne1 : ¬ b1 = wr.heap.size := by omega
   go_wp2_with (go_at_call 21; (with_reducible refine (IH'.out m h1 S _ _ (Dat.HoldVals.bel bl HV1.out) HCN.out).mono ?_); rintro e w3 ⟨rfl, hb3⟩; rw [HQ.out])
   go_roundw
   case rel => exact ⟨m + 1, s + q, by go_num, by go_num, by omega, hide HNX2.out, bl⟩
   case measure => simp [intOf]; omega
theorem l9Cases_any : ∀ t, CasC 21 t := TExpr.ind fun k t n li ks IH => l9Cases_mk k n li t ks IH
end Go.Proofs.YtdacpljinffnaaaDoor
