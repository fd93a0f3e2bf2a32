/- CountCore, both sides. -/
import Derived.Test.YtgofbnmablgedaaGreatDoorPD
import Derived.Deep.QuietTactic
import Derived.BigQuiet
namespace Go.Proofs.YtgofbnmablgedaaGreatDoor
set_option linter.unusedVariables false
set_option linter.unusedSimpArgs false
set_option maxRecDepth 100000
open Go.RowKit
mutual
def TCore.cnt : TCore → Nat
 | .mk _ _ _ _ _ ks => 1 + TCore.cnts ks
def TCore.cnts : List TCore → Nat
 | [] => 0
 | x :: r => TCore.cnt x + TCore.cnts r
end
theorem TCore.cnts_take : ∀ (l : List TCore) (k : Nat) (h : k < l.length), TCore.cnts (l.take (k + 1)) = TCore.cnts (l.take k) + l[k].cnt
 | x :: r, 0, _ => by simp [TCore.cnts]
 | x :: r, k + 1, h => by
  have := TCore.cnts_take r k (by simpa using h)
  simp only [List.take_succ_cons, TCore.cnts, List.getElem_cons_succ, this]
  omega
theorem TCore.cnts_le : ∀ (l : List TCore) (k : Nat), TCore.cnts (l.take k) ≤ TCore.cnts l
 | [], k => by simp
 | x :: r, 0 => by simp [TCore.cnts]
 | x :: r, k + 1 => by
  have := TCore.cnts_le r k
  simp only [List.take_succ_cons, TCore.cnts]
  omega
set_option maxHeartbeats 400000 in
theorem specCountCore_any : ∀ t : TCore, ∀ (S : Nat → Prop) (w : World) (vs : List Value), Dat.HoldVals w S t.D vs → t.cnt ≤ 2000000 →
  Calls Tryz.prog 47 #[.agg vs.toArray] w fun e w' => e = .returned (.int .i64 t.cnt) ∧ Bel w w' := by
 refine TCore.ind fun op n lo hi t ks IH => ?_
 intro S w vs hv hcnt
 obtain ⟨A, c, rfl, -, -, -, -, -, hR⟩ := TCore.vals hv
 have IH' := hide IH
 have HR := hide hR
 have hlen := hR.1
 have hcm := hR.2.1
 simp only [List.length_map] at hlen
 unfold maxLen at hcm
 have hC := hide hcnt
 clear IH hR hv hcnt
 go_enter Tryz.func47, Tryz.ntmps47
 go_wp2_with (fail)
 go_loopw [3, 4] (fun nv iv wr => ∃ k : Nat, k ≤ ks.length ∧ iv = .int .i64 k ∧ nv = .int .i64 ((1 + TCore.cnts (ks.take k) : Nat)) ∧ Bel (w.alloc (.cells #[.int .i64 op, .int .i64 n, .int .i64 lo, .int .i64 hi, .string t, .slice A ks.length c] 53)) wr) (fun _ iv _ => ks.length - (intOf iv).toNat)
 case atStart => exact ⟨0, Nat.zero_le _, rfl, by simp [TCore.cnts], Bel.refl _⟩
 case round =>
  obtain ⟨k, hk, rfl, rfl, hbx⟩ := hrel
  have p5 : wr.cell? ⟨w.heap.size, 5, none⟩ = some (.slice A ks.length c) := (hbx.box _ (by simp) 5).trans (by simp)
  have hbw : Bel w wr := Bel.trans bl hbx
  have hle := hide (TCore.cnts_le ks k)
  have hbd : 1 + TCore.cnts (ks.take k) ≤ 2000000 := by have := hle.out; have := hC.out; simp only [TCore.cnt] at this; omega
  rcases Nat.lt_or_ge k ks.length with hlt | hge
  ·
   have hd : decide ((k : Int) < (ks.length : Int)) = true := by simp; omega
   (obtain ⟨b1, o1, x1_0, x1_1, x1_2, x1_3, x1_4, x1_5, A1_5, C1_5, hA1, hS1, hl1, hx1, hv1, g1_0, g1_1, g1_2, g1_3, g1_4, g1_5, c1_0, c1_1, c1_2, c1_3, c1_4, c1_5⟩ := TCore.at HR.out k hlt; subst hA1; have HV1 := hide (Dat.HoldVals.bel hbw hv1); have hh1 := hbw.box b1 hl1; have hw1 := Nat.lt_of_lt_of_le hl1 (Bel.size hbw); replace c1_0 := (hh1 _).trans c1_0; replace c1_1 := (hh1 _).trans c1_1; replace c1_2 := (hh1 _).trans c1_2; replace c1_3 := (hh1 _).trans c1_3; replace c1_4 := (hh1 _).trans c1_4; replace c1_5 := (hh1 _).trans c1_5; have HX1 := hide hx1; have GR1_5 := hide g1_5; clear hh1 hv1 hx1 hS1 g1_5)
   go_wp2_with (fail)
   have hc1 : ks[k].cnt ≤ 2000000 := by have h1 := TCore.cnts_take ks k hlt; have h2 := TCore.cnts_le ks (k + 1); have := hC.out; simp only [TCore.cnt] at this; omega
   refine (IH'.out k hlt S _ _ (Dat.HoldVals.bel bl HV1.out) hc1).mono ?_
   rintro e w1 ⟨rfl, hb1⟩
   go_wp2_with (fail)
   go_roundw
   case rel => exact ⟨k + 1, by omega, by go_num, by rw [TCore.cnts_take ks k hlt]; go_num, bl⟩
   case measure => simp [intOf]; omega
  ·
   have hd : decide ((k : Int) < (ks.length : Int)) = false := by simp; omega
   go_wp2_with (fail)
   go_returns
   exact ⟨by rw [List.take_of_length_le (by omega)]; rfl, hbw⟩
set_option maxHeartbeats 400000 in
theorem implCountCore_any : ∀ t : TCore, ∀ (S : Nat → Prop) (w : World) (vs : List Value), Dat.HoldVals w S t.D vs → t.cnt ≤ 2000000 →
  Calls Tryz.prog 55 #[.agg vs.toArray] w fun e w' => e = .returned (.int .i64 t.cnt) ∧ Bel w w' := by
 refine TCore.ind fun op n lo hi t ks IH => ?_
 intro S w vs hv hcnt
 obtain ⟨A, c, rfl, -, -, -, -, -, hR⟩ := TCore.vals hv
 have IH' := hide IH
 have HR := hide hR
 have hlen := hR.1
 have hcm := hR.2.1
 simp only [List.length_map] at hlen
 unfold maxLen at hcm
 have hC := hide hcnt
 clear IH hR hv hcnt
 go_enter Tryz.func55, Tryz.ntmps55
 go_wp2_with (fail)
 go_loopw [3, 9] (fun nv iv wr => ∃ k : Nat, k ≤ ks.length ∧ iv = .int .i64 k ∧ nv = .int .i64 ((1 + TCore.cnts (ks.take k) : Nat)) ∧ Bel (w.alloc (.cells #[.int .i64 op, .int .i64 n, .int .i64 lo, .int .i64 hi, .string t, .slice A ks.length c] 53)) wr) (fun _ iv _ => ks.length - (intOf iv).toNat)
 case atStart => exact ⟨0, Nat.zero_le _, rfl, by simp [TCore.cnts], Bel.refl _⟩
 case round =>
  obtain ⟨k, hk, rfl, rfl, hbx⟩ := hrel
  have p5 : wr.cell? ⟨w.heap.size, 5, none⟩ = some (.slice A ks.length c) := (hbx.box _ (by simp) 5).trans (by simp)
  have hbw : Bel w wr := Bel.trans bl hbx
  have hle := hide (TCore.cnts_le ks k)
  have hbd : 1 + TCore.cnts (ks.take k) ≤ 2000000 := by have := hle.out; have := hC.out; simp only [TCore.cnt] at this; omega
  rcases Nat.lt_or_ge k ks.length with hlt | hge
  ·
   have hd : decide ((k : Int) < (ks.length : Int)) = true := by simp; omega
   (obtain ⟨b1, o1, x1_0, x1_1, x1_2, x1_3, x1_4, x1_5, A1_5, C1_5, hA1, hS1, hl1, hx1, hv1, g1_0, g1_1, g1_2, g1_3, g1_4, g1_5, c1_0, c1_1, c1_2, c1_3, c1_4, c1_5⟩ := TCore.at HR.out k hlt; subst hA1; have HV1 := hide (Dat.HoldVals.bel hbw hv1); have hh1 := hbw.box b1 hl1; have hw1 := Nat.lt_of_lt_of_le hl1 (Bel.size hbw); replace c1_0 := (hh1 _).trans c1_0; replace c1_1 := (hh1 _).trans c1_1; replace c1_2 := (hh1 _).trans c1_2; replace c1_3 := (hh1 _).trans c1_3; replace c1_4 := (hh1 _).trans c1_4; replace c1_5 := (hh1 _).trans c1_5; have HX1 := hide hx1; have GR1_5 := hide g1_5; clear hh1 hv1 hx1 hS1 g1_5)
   go_wp2_with (fail)
   have hc1 : ks[k].cnt ≤ 2000000 := by have h1 := TCore.cnts_take ks k hlt; have h2 := TCore.cnts_le ks (k + 1); have := hC.out; simp only [TCore.cnt] at this; omega
   refine (IH'.out k hlt S _ _ (Dat.HoldVals.bel bl HV1.out) hc1).mono ?_
   rintro e w1 ⟨rfl, hb1⟩
   go_wp2_with (fail)
   go_roundw
   case rel => exact ⟨k + 1, by omega, by go_num, by rw [TCore.cnts_take ks k hlt]; go_num, bl⟩
   case measure => simp [intOf]; omega
  ·
   have hd : decide ((k : Int) < (ks.length : Int)) = false := by simp; omega
   go_wp2_with (fail)
   go_returns
   exact ⟨by rw [List.take_of_length_le (by omega)]; rfl, hbw⟩
end Go.Proofs.YtgofbnmablgedaaGreatDoor
