/- CountPattern and CountCore, both sides. -/
import Derived.Test.YtdjbfneniohaaaaPD
import Derived.Deep.QuietTactic
import Derived.BigQuiet
namespace Go.Proofs.Ytdjbfneniohaaaa
set_option linter.unusedVariables false
set_option linter.unusedSimpArgs false
set_option maxRecDepth 100000
open Go.RowKit
mutual
def TPattern.cnt : TPattern → Nat
 | .mk _ _ _ _ _ ks => 1 + TPattern.cnts ks
def TPattern.cnts : List TPattern → Nat
 | [] => 0
 | x :: r => TPattern.cnt x + TPattern.cnts r
end
theorem TPattern.cnts_take : ∀ (l : List TPattern) (k : Nat) (h : k < l.length), TPattern.cnts (l.take (k + 1)) = TPattern.cnts (l.take k) + l[k].cnt
 | x :: r, 0, _ => by simp [TPattern.cnts]
 | x :: r, k + 1, h => by
  have := TPattern.cnts_take r k (by simpa using h)
  simp only [List.take_succ_cons, TPattern.cnts, List.getElem_cons_succ, this]
  omega
theorem TPattern.cnts_le : ∀ (l : List TPattern) (k : Nat), TPattern.cnts (l.take k) ≤ TPattern.cnts l
 | [], k => by simp
 | x :: r, 0 => by simp [TPattern.cnts]
 | x :: r, k + 1 => by
  have := TPattern.cnts_le r k
  simp only [List.take_succ_cons, TPattern.cnts]
  omega
set_option maxHeartbeats 400000 in
theorem implCountPattern_any : ∀ t : TPattern, ∀ (S : Nat → Prop) (w : World) (vs : List Value), Dat.HoldVals w S t.D vs → t.cnt ≤ 2000000 →
  Calls Try.prog 56 #[.agg vs.toArray] w fun e w' => e = .returned (.int .i64 t.cnt) ∧ Bel w w' := by
 refine TPattern.ind fun op t n lo hi ks IH => ?_
 intro S w vs hv hcnt
 obtain ⟨A, c, rfl, -, -, -, -, -, hR⟩ := TPattern.vals hv
 have IH' := hide IH
 have HR := hide hR
 have hlen := hR.1
 have hcm := hR.2.1
 simp only [List.length_map] at hlen
 unfold maxLen at hcm
 have hC := hide hcnt
 clear IH hR hv hcnt
 go_enter Try.func56, Try.ntmps56
 go_wp2_with (fail)
 go_loopw [3, 9] (fun nv iv wr => ∃ k : Nat, k ≤ ks.length ∧ iv = .int .i64 k ∧ nv = .int .i64 ((1 + TPattern.cnts (ks.take k) : Nat)) ∧ Bel (w.alloc (.cells #[.int .i64 op, .string t, .int .i64 n, .int .i64 lo, .int .i64 hi, .slice A ks.length c] 28)) wr) (fun _ iv _ => ks.length - (intOf iv).toNat)
 case atStart => exact ⟨0, Nat.zero_le _, rfl, by simp [TPattern.cnts], Bel.refl _⟩
 case round =>
  obtain ⟨k, hk, rfl, rfl, hbx⟩ := hrel
  have p5 : wr.cell? ⟨w.heap.size, 5, none⟩ = some (.slice A ks.length c) := (hbx.box _ (by simp) 5).trans (by simp)
  have hbw : Bel w wr := Bel.trans bl hbx
  have hle := hide (TPattern.cnts_le ks k)
  have hbd : 1 + TPattern.cnts (ks.take k) ≤ 2000000 := by have := hle.out; have := hC.out; simp only [TPattern.cnt] at this; omega
  rcases Nat.lt_or_ge k ks.length with hlt | hge
  ·
   have hd : decide ((k : Int) < (ks.length : Int)) = true := by simp; omega
   (obtain ⟨b1, o1, x1_0, x1_1, x1_2, x1_3, x1_4, x1_5, A1_5, C1_5, hA1, hS1, hl1, hx1, hv1, g1_0, g1_1, g1_2, g1_3, g1_4, g1_5, c1_0, c1_1, c1_2, c1_3, c1_4, c1_5⟩ := TPattern.at HR.out k hlt; subst hA1; have HV1 := hide (Dat.HoldVals.bel hbw hv1); have hh1 := hbw.box b1 hl1; have hw1 := Nat.lt_of_lt_of_le hl1 (Bel.size hbw); replace c1_0 := (hh1 _).trans c1_0; replace c1_1 := (hh1 _).trans c1_1; replace c1_2 := (hh1 _).trans c1_2; replace c1_3 := (hh1 _).trans c1_3; replace c1_4 := (hh1 _).trans c1_4; replace c1_5 := (hh1 _).trans c1_5; have HX1 := hide hx1; have GR1_5 := hide g1_5; clear hh1 hv1 hx1 hS1 g1_5)
   go_wp2_with (fail)
   have hc1 : ks[k].cnt ≤ 2000000 := by have h1 := TPattern.cnts_take ks k hlt; have h2 := TPattern.cnts_le ks (k + 1); have := hC.out; simp only [TPattern.cnt] at this; omega
   refine (IH'.out k hlt S _ _ (Dat.HoldVals.bel bl HV1.out) hc1).mono ?_
   rintro e w1 ⟨rfl, hb1⟩
   go_wp2_with (fail)
   go_roundw
   case rel => exact ⟨k + 1, by omega, by go_num, by rw [TPattern.cnts_take ks k hlt]; go_num, bl⟩
   case measure => simp [intOf]; omega
  ·
   have hd : decide ((k : Int) < (ks.length : Int)) = false := by simp; omega
   go_wp2_with (fail)
   go_returns
   exact ⟨by rw [List.take_of_length_le (by omega)]; rfl, hbw⟩
end Go.Proofs.Ytdjbfneniohaaaa
namespace Go.Proofs.Ytdjbfneniohaaaa
set_option linter.unusedVariables false
set_option linter.unusedSimpArgs false
set_option maxRecDepth 100000
open Go.RowKit
def kidsN (op : Int) : Nat := if op = 13 ∨ op = 16 ∨ op = 17 then 1 else if op = 14 ∨ op = 15 then 2 else 0
set_option maxHeartbeats 400000 in
theorem l18Kids_any (op : Int) (w : World) : Calls Try.prog 67 #[.int .i64 op] w fun e w' => e = .returned (.int .i64 (kidsN op)) ∧ w = w' := by
 go_enter Try.func67, Try.ntmps67
 go_wp2
 all_goals
  go_returns
  go_light
  refine ⟨?_, rfl⟩
  simp_all [kidsN]
set_option maxHeartbeats 400000 in
theorem patternKids_any (op : Int) (w : World) : Calls Try.prog 70 #[.int .i64 op] w fun e w' => e = .returned (.int .i64 (kidsN op)) ∧ w = w' := by
 go_enter Try.func70, Try.ntmps70
 go_wp2
 all_goals
  go_returns
  go_light
  refine ⟨?_, rfl⟩
  simp_all [kidsN]
set_option maxHeartbeats 400000 in
theorem l1In_any (a b c : Int) (w : World) : Calls Try.prog 31 #[.int .i64 a, .int .i64 b, .int .i64 c] w fun e w' => e = .returned (.bool (decide (b ≤ a) && decide (a ≤ c))) ∧ w = w' := by
 by_cases h : b ≤ a
 ·
  have hd : decide (b ≤ a) = true := by simp [h]
  go_enter Try.func31, Try.ntmps31
  go_wp2
  all_goals
   go_returns
   exact ⟨by simp [h], rfl⟩
 ·
  have hd : decide (b ≤ a) = false := by simp [h]
  go_enter Try.func31, Try.ntmps31
  go_wp2
  all_goals
   go_returns
   exact ⟨by simp [h], rfl⟩
theorem tlE {t : ByteArray} : t.toList.isEmpty = true ↔ t.size = 0 := by
 rw [ByteArray.toList_eq, List.isEmpty_iff, ← List.length_eq_zero_iff]
 simp
def nodeA (op lo hi : Int) (t : ByteArray) (m : Nat) : Prop := 1 ≤ op ∧ op ≤ 23 ∧ m = kidsN op ∧ (op = 1 ∨ t.size = 0) ∧ t.size ≤ 120 ∧ ((7 ≤ op ∧ op ≤ 10) ∨ (lo = 0 ∧ hi = 0))
def nodeN (op n vars : Int) : Prop := if 2 ≤ op ∧ op ≤ 6 then 0 ≤ n ∧ n ≤ 120 else if op = 16 ∨ op = 17 ∨ op = 18 ∨ op = 20 then 0 ≤ n ∧ n < vars else n = 0
instance (op lo hi : Int) (t : ByteArray) (m : Nat) : Decidable (nodeA op lo hi t m) := by unfold nodeA; infer_instance
instance (op n vars : Int) : Decidable (nodeN op n vars) := by unfold nodeN; infer_instance
mutual
def TPattern.vld (vars : Int) : TPattern → Bool
 | .mk op t n lo hi ks => decide (nodeA op lo hi t ks.length) && decide (nodeN op n vars) && TPattern.vlds vars ks
def TPattern.vlds (vars : Int) : List TPattern → Bool
 | [] => true
 | x :: r => TPattern.vld vars x && TPattern.vlds vars r
end
theorem ret_bool {a b : Bool} (h : a = b) : Ending.returned (.bool a) = .returned (.bool b) := by rw [h]
theorem TPattern.vlds_take (vars : Int) : ∀ (l : List TPattern) (k : Nat) (h : k < l.length), TPattern.vlds vars (l.take (k + 1)) = (TPattern.vlds vars (l.take k) && l[k].vld vars)
 | x :: r, 0, _ => by simp [TPattern.vlds]
 | x :: r, k + 1, h => by
  have := TPattern.vlds_take vars r k (by simpa using h)
  simp only [List.take_succ_cons, TPattern.vlds, List.getElem_cons_succ, this, Bool.and_assoc]
theorem TPattern.vlds_yes {vars : Int} {l : List TPattern} {k : Nat} (h : k < l.length) (h1 : TPattern.vlds vars (l.take k) = true) (h2 : l[k].vld vars = true) : TPattern.vlds vars (l.take (k + 1)) = true := by
 rw [TPattern.vlds_take vars l k h, h1, h2]; rfl
theorem TPattern.vlds_no {vars : Int} : ∀ {l : List TPattern} {k : Nat} (h : k < l.length), l[k].vld vars = false → TPattern.vlds vars l = false
 | x :: r, 0, _, h => by simp at h; simp [TPattern.vlds, h]
 | x :: r, k + 1, hk, h => by
  have := TPattern.vlds_no (l := r) (k := k) (by simpa using hk) (by simpa using h)
  simp [TPattern.vlds, this]
end Go.Proofs.Ytdjbfneniohaaaa
