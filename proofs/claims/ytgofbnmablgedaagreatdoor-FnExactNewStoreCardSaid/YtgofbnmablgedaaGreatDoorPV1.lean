/- Valid cores: how many kids a node has, how deep it is, the text of a set, the number of a leaf; both sides. -/
import Derived.Test.YtgofbnmablgedaaGreatDoorPV0
import Derived.Test.YtgofbnmablgedaaGreatDoorPE6
import Derived.Test.YtgofbnmablgedaaGreatDoorPN1
import Derived.Test.YtgofbnmablgedaaGreatDoorPP1C
import Derived.Test.YtgofbnmablgedaaGreatDoorPP1
namespace Go.Proofs.YtgofbnmablgedaaGreatDoor
set_option linter.unusedVariables false
set_option linter.unusedSimpArgs false
set_option maxRecDepth 100000
open Go.RowKit
def lohi (k op : Int) : Int × Int := if k = 11 then opArity op else if k = 12 then (1, 9) else if k = 16 then (1, 24) else if k = 14 ∨ k = 20 ∨ k = 23 ∨ k = 26 ∨ k = 27 then (1, 1)
 else if k = 13 ∨ k = 15 ∨ k = 18 ∨ k = 19 ∨ k = 22 ∨ k = 25 then (2, 2) else if k = 17 then (3, 3) else (0, 0)
set_option maxHeartbeats 1000000 in
theorem l10Counts_any (k op n li : Int) (t : ByteArray) (A : Option Addr) (m c : Nat) (w : World) :
  Calls Tryz.prog 71 #[.agg #[.int .i64 k, .int .i64 op, .int .i64 n, .int .i64 li, .string t, .slice A m c]] w fun e w' => e = .returned (.tuple #[.int .i64 (lohi k op).1, .int .i64 (lohi k op).2]) ∧ Bel w w' := by
 rcases (by omega : k = 11 ∨ k = 12 ∨ k = 16 ∨ k = 14 ∨ k = 20 ∨ k = 23 ∨ k = 26 ∨ k = 27 ∨ k = 13 ∨ k = 15 ∨ k = 18 ∨ k = 19 ∨ k = 22 ∨ k = 25 ∨ k = 17 ∨ (k ≠ 11 ∧ k ≠ 12 ∧ k ≠ 16 ∧ k ≠ 14 ∧ k ≠ 20 ∧ k ≠ 23 ∧ k ≠ 26 ∧ k ≠ 27 ∧ k ≠ 13 ∧ k ≠ 15 ∧ k ≠ 18 ∧ k ≠ 19 ∧ k ≠ 22 ∧ k ≠ 25 ∧ k ≠ 17)) with rfl | rfl | rfl | rfl | rfl | rfl | rfl | rfl | rfl | rfl | rfl | rfl | rfl | rfl | rfl | ⟨h11, h12, h16, h14, h20, h23, h26, h27, h13, h15, h18, h19, h22, h25, h17⟩
 ·
  rw [show lohi 11 op = opArity op by unfold lohi; rw [if_pos rfl]]
  go_enter Tryz.func71, Tryz.ntmps71
  go_wp2_with (go_at_call 88; refine (specOperatorArity_any op _).mono ?_; rintro e w1 ⟨rfl, hb1⟩)
  all_goals
   go_returns
   exact ⟨rfl, bl⟩
 ·
  rw [show lohi 12 op = (1, 9) by unfold lohi; simp]
  go_enter Tryz.func71, Tryz.ntmps71
  go_wp2_with (fail)
  all_goals
   go_returns
   exact ⟨rfl, bl⟩
 ·
  rw [show lohi 16 op = (1, 24) by unfold lohi; simp]
  go_enter Tryz.func71, Tryz.ntmps71
  go_wp2_with (fail)
  all_goals
   go_returns
   exact ⟨rfl, bl⟩
 ·
  rw [show lohi 14 op = (1, 1) by unfold lohi; simp]
  go_enter Tryz.func71, Tryz.ntmps71
  go_wp2_with (fail)
  all_goals
   go_returns
   exact ⟨rfl, bl⟩
 ·
  rw [show lohi 20 op = (1, 1) by unfold lohi; simp]
  go_enter Tryz.func71, Tryz.ntmps71
  go_wp2_with (fail)
  all_goals
   go_returns
   exact ⟨rfl, bl⟩
 ·
  rw [show lohi 23 op = (1, 1) by unfold lohi; simp]
  go_enter Tryz.func71, Tryz.ntmps71
  go_wp2_with (fail)
  all_goals
   go_returns
   exact ⟨rfl, bl⟩
 ·
  rw [show lohi 26 op = (1, 1) by unfold lohi; simp]
  go_enter Tryz.func71, Tryz.ntmps71
  go_wp2_with (fail)
  all_goals
   go_returns
   exact ⟨rfl, bl⟩
 ·
  rw [show lohi 27 op = (1, 1) by unfold lohi; simp]
  go_enter Tryz.func71, Tryz.ntmps71
  go_wp2_with (fail)
  all_goals
   go_returns
   exact ⟨rfl, bl⟩
 ·
  rw [show lohi 13 op = (2, 2) by unfold lohi; simp]
  go_enter Tryz.func71, Tryz.ntmps71
  go_wp2_with (fail)
  all_goals
   go_returns
   exact ⟨rfl, bl⟩
 ·
  rw [show lohi 15 op = (2, 2) by unfold lohi; simp]
  go_enter Tryz.func71, Tryz.ntmps71
  go_wp2_with (fail)
  all_goals
   go_returns
   exact ⟨rfl, bl⟩
 ·
  rw [show lohi 18 op = (2, 2) by unfold lohi; simp]
  go_enter Tryz.func71, Tryz.ntmps71
  go_wp2_with (fail)
  all_goals
   go_returns
   exact ⟨rfl, bl⟩
 ·
  rw [show lohi 19 op = (2, 2) by unfold lohi; simp]
  go_enter Tryz.func71, Tryz.ntmps71
  go_wp2_with (fail)
  all_goals
   go_returns
   exact ⟨rfl, bl⟩
 ·
  rw [show lohi 22 op = (2, 2) by unfold lohi; simp]
  go_enter Tryz.func71, Tryz.ntmps71
  go_wp2_with (fail)
  all_goals
   go_returns
   exact ⟨rfl, bl⟩
 ·
  rw [show lohi 25 op = (2, 2) by unfold lohi; simp]
  go_enter Tryz.func71, Tryz.ntmps71
  go_wp2_with (fail)
  all_goals
   go_returns
   exact ⟨rfl, bl⟩
 ·
  rw [show lohi 17 op = (3, 3) by unfold lohi; simp]
  go_enter Tryz.func71, Tryz.ntmps71
  go_wp2_with (fail)
  all_goals
   go_returns
   exact ⟨rfl, bl⟩
 ·
  rw [show lohi k op = (0, 0) by unfold lohi; simp [h11, h12, h16, h14, h20, h23, h26, h27, h13, h15, h18, h19, h22, h25, h17]]
  have e11 : (k == 11) = false := by rw [beq_eq_false_iff_ne]; exact h11
  have e12 : (k == 12) = false := by rw [beq_eq_false_iff_ne]; exact h12
  have e16 : (k == 16) = false := by rw [beq_eq_false_iff_ne]; exact h16
  have e14 : (k == 14) = false := by rw [beq_eq_false_iff_ne]; exact h14
  have e20 : (k == 20) = false := by rw [beq_eq_false_iff_ne]; exact h20
  have e23 : (k == 23) = false := by rw [beq_eq_false_iff_ne]; exact h23
  have e26 : (k == 26) = false := by rw [beq_eq_false_iff_ne]; exact h26
  have e27 : (k == 27) = false := by rw [beq_eq_false_iff_ne]; exact h27
  have e13 : (k == 13) = false := by rw [beq_eq_false_iff_ne]; exact h13
  have e15 : (k == 15) = false := by rw [beq_eq_false_iff_ne]; exact h15
  have e18 : (k == 18) = false := by rw [beq_eq_false_iff_ne]; exact h18
  have e19 : (k == 19) = false := by rw [beq_eq_false_iff_ne]; exact h19
  have e22 : (k == 22) = false := by rw [beq_eq_false_iff_ne]; exact h22
  have e25 : (k == 25) = false := by rw [beq_eq_false_iff_ne]; exact h25
  have e17 : (k == 17) = false := by rw [beq_eq_false_iff_ne]; exact h17
  clear h11 h12 h16 h14 h20 h23 h26 h27 h13 h15 h18 h19 h22 h25 h17
  go_enter Tryz.func71, Tryz.ntmps71
  go_wp2_with (fail)
  all_goals
   go_returns
   exact ⟨rfl, bl⟩
set_option maxHeartbeats 1000000 in
theorem coreKids_any (k op n li : Int) (t : ByteArray) (A : Option Addr) (m c : Nat) (w : World) (ht : Sp w) :
  Calls Tryz.prog 81 #[.agg #[.int .i64 k, .int .i64 op, .int .i64 n, .int .i64 li, .string t, .slice A m c]] w fun e w' => e = .returned (.tuple #[.int .i64 (lohi k op).1, .int .i64 (lohi k op).2]) ∧ Bel w w' := by
 have HT := hide ht
 clear ht
 rcases (by omega : k = 11 ∨ k = 12 ∨ k = 16 ∨ k = 14 ∨ k = 20 ∨ k = 23 ∨ k = 26 ∨ k = 27 ∨ k = 13 ∨ k = 15 ∨ k = 18 ∨ k = 19 ∨ k = 22 ∨ k = 25 ∨ k = 17 ∨ (k ≠ 11 ∧ k ≠ 12 ∧ k ≠ 16 ∧ k ≠ 14 ∧ k ≠ 20 ∧ k ≠ 23 ∧ k ≠ 26 ∧ k ≠ 27 ∧ k ≠ 13 ∧ k ≠ 15 ∧ k ≠ 18 ∧ k ≠ 19 ∧ k ≠ 22 ∧ k ≠ 25 ∧ k ≠ 17)) with rfl | rfl | rfl | rfl | rfl | rfl | rfl | rfl | rfl | rfl | rfl | rfl | rfl | rfl | rfl | ⟨h11, h12, h16, h14, h20, h23, h26, h27, h13, h15, h18, h19, h22, h25, h17⟩
 ·
  rw [show lohi 11 op = opArity op by unfold lohi; rw [if_pos rfl]]
  go_enter Tryz.func81, Tryz.ntmps81
  go_wp2_with (go_at_call 94; refine (implOperatorArity_any op _ (HT.out.on bl)).mono ?_; rintro e w1 ⟨rfl, hb1⟩)
  all_goals
   go_returns
   exact ⟨rfl, bl⟩
 ·
  rw [show lohi 12 op = (1, 9) by unfold lohi; simp]
  go_enter Tryz.func81, Tryz.ntmps81
  go_wp2_with (fail)
  all_goals
   go_returns
   exact ⟨rfl, bl⟩
 ·
  rw [show lohi 16 op = (1, 24) by unfold lohi; simp]
  go_enter Tryz.func81, Tryz.ntmps81
  go_wp2_with (fail)
  all_goals
   go_returns
   exact ⟨rfl, bl⟩
 ·
  rw [show lohi 14 op = (1, 1) by unfold lohi; simp]
  go_enter Tryz.func81, Tryz.ntmps81
  go_wp2_with (fail)
  all_goals
   go_returns
   exact ⟨rfl, bl⟩
 ·
  rw [show lohi 20 op = (1, 1) by unfold lohi; simp]
  go_enter Tryz.func81, Tryz.ntmps81
  go_wp2_with (fail)
  all_goals
   go_returns
   exact ⟨rfl, bl⟩
 ·
  rw [show lohi 23 op = (1, 1) by unfold lohi; simp]
  go_enter Tryz.func81, Tryz.ntmps81
  go_wp2_with (fail)
  all_goals
   go_returns
   exact ⟨rfl, bl⟩
 ·
  rw [show lohi 26 op = (1, 1) by unfold lohi; simp]
  go_enter Tryz.func81, Tryz.ntmps81
  go_wp2_with (fail)
  all_goals
   go_returns
   exact ⟨rfl, bl⟩
 ·
  rw [show lohi 27 op = (1, 1) by unfold lohi; simp]
  go_enter Tryz.func81, Tryz.ntmps81
  go_wp2_with (fail)
  all_goals
   go_returns
   exact ⟨rfl, bl⟩
 ·
  rw [show lohi 13 op = (2, 2) by unfold lohi; simp]
  go_enter Tryz.func81, Tryz.ntmps81
  go_wp2_with (fail)
  all_goals
   go_returns
   exact ⟨rfl, bl⟩
 ·
  rw [show lohi 15 op = (2, 2) by unfold lohi; simp]
  go_enter Tryz.func81, Tryz.ntmps81
  go_wp2_with (fail)
  all_goals
   go_returns
   exact ⟨rfl, bl⟩
 ·
  rw [show lohi 18 op = (2, 2) by unfold lohi; simp]
  go_enter Tryz.func81, Tryz.ntmps81
  go_wp2_with (fail)
  all_goals
   go_returns
   exact ⟨rfl, bl⟩
 ·
  rw [show lohi 19 op = (2, 2) by unfold lohi; simp]
  go_enter Tryz.func81, Tryz.ntmps81
  go_wp2_with (fail)
  all_goals
   go_returns
   exact ⟨rfl, bl⟩
 ·
  rw [show lohi 22 op = (2, 2) by unfold lohi; simp]
  go_enter Tryz.func81, Tryz.ntmps81
  go_wp2_with (fail)
  all_goals
   go_returns
   exact ⟨rfl, bl⟩
 ·
  rw [show lohi 25 op = (2, 2) by unfold lohi; simp]
  go_enter Tryz.func81, Tryz.ntmps81
  go_wp2_with (fail)
  all_goals
   go_returns
   exact ⟨rfl, bl⟩
 ·
  rw [show lohi 17 op = (3, 3) by unfold lohi; simp]
  go_enter Tryz.func81, Tryz.ntmps81
  go_wp2_with (fail)
  all_goals
   go_returns
   exact ⟨rfl, bl⟩
 ·
  rw [show lohi k op = (0, 0) by unfold lohi; simp [h11, h12, h16, h14, h20, h23, h26, h27, h13, h15, h18, h19, h22, h25, h17]]
  have e11 : (k == 11) = false := by rw [beq_eq_false_iff_ne]; exact h11
  have e12 : (k == 12) = false := by rw [beq_eq_false_iff_ne]; exact h12
  have e16 : (k == 16) = false := by rw [beq_eq_false_iff_ne]; exact h16
  have e14 : (k == 14) = false := by rw [beq_eq_false_iff_ne]; exact h14
  have e20 : (k == 20) = false := by rw [beq_eq_false_iff_ne]; exact h20
  have e23 : (k == 23) = false := by rw [beq_eq_false_iff_ne]; exact h23
  have e26 : (k == 26) = false := by rw [beq_eq_false_iff_ne]; exact h26
  have e27 : (k == 27) = false := by rw [beq_eq_false_iff_ne]; exact h27
  have e13 : (k == 13) = false := by rw [beq_eq_false_iff_ne]; exact h13
  have e15 : (k == 15) = false := by rw [beq_eq_false_iff_ne]; exact h15
  have e18 : (k == 18) = false := by rw [beq_eq_false_iff_ne]; exact h18
  have e19 : (k == 19) = false := by rw [beq_eq_false_iff_ne]; exact h19
  have e22 : (k == 22) = false := by rw [beq_eq_false_iff_ne]; exact h22
  have e25 : (k == 25) = false := by rw [beq_eq_false_iff_ne]; exact h25
  have e17 : (k == 17) = false := by rw [beq_eq_false_iff_ne]; exact h17
  clear h11 h12 h16 h14 h20 h23 h26 h27 h13 h15 h18 h19 h22 h25 h17
  go_enter Tryz.func81, Tryz.ntmps81
  go_wp2_with (fail)
  all_goals
   go_returns
   exact ⟨rfl, bl⟩
mutual
/-- How deep a core is. -/
def TCore.dep : TCore → Nat
 | .mk _ _ _ _ _ ks => TCore.deps ks + 1
def TCore.deps : List TCore → Nat
 | [] => 0
 | x :: r => max (TCore.dep x) (TCore.deps r)
end
theorem TCore.deps_take : ∀ (l : List TCore) (k : Nat) (h : k < l.length), TCore.deps (l.take (k + 1)) = max (TCore.deps (l.take k)) l[k].dep
 | x :: r, 0, _ => by simp [TCore.deps]
 | x :: r, k + 1, h => by
  have := TCore.deps_take r k (by simpa using h)
  simp only [List.take_succ_cons, TCore.deps, List.getElem_cons_succ, this]
  omega
theorem TCore.deps_le : ∀ (l : List TCore) (k : Nat), TCore.deps (l.take k) ≤ TCore.deps l
 | [], k => by simp
 | x :: r, 0 => by simp [TCore.deps]
 | x :: r, k + 1 => by
  have := TCore.deps_le r k
  simp only [List.take_succ_cons, TCore.deps]
  omega
theorem TCore.dep_le {l : List TCore} {k : Nat} (h : k < l.length) : l[k].dep ≤ TCore.deps l := by
 have h1 := TCore.deps_take l k h
 have h2 := TCore.deps_le l (k + 1)
 omega
theorem TCore.deps_iff (d : Nat) : ∀ (l : List TCore), TCore.deps l ≤ d ↔ ∀ x ∈ l, TCore.dep x ≤ d
 | [] => by simp [TCore.deps]
 | x :: r => by
  have := TCore.deps_iff d r
  simp only [TCore.deps, List.mem_cons, forall_eq_or_imp, ← this]
  omega
mutual
theorem TCore.dep_cnt : ∀ t : TCore, t.dep ≤ t.cnt
 | .mk _ _ _ _ _ ks => by
  have := TCore.deps_cnt ks
  simp only [TCore.dep, TCore.cnt]
  omega
theorem TCore.deps_cnt : ∀ l : List TCore, TCore.deps l ≤ TCore.cnts l
 | [] => by simp [TCore.deps]
 | x :: r => by
  have h1 := TCore.dep_cnt x
  have h2 := TCore.deps_cnt r
  simp only [TCore.deps, TCore.cnts]
  omega
end
set_option maxHeartbeats 400000 in
theorem coreDepth_any : ∀ t : TCore, ∀ (S : Nat → Prop) (w : World) (vs : List Value), Dat.HoldVals w S t.D vs → t.dep ≤ 2000000 →
  Calls Tryz.prog 56 #[.agg vs.toArray] w fun e w' => e = .returned (.int .i64 t.dep) ∧ Bel w w' := by
 refine TCore.ind fun op n lo hi t ks IH => ?_
 intro S w vs hv hcnt
 obtain ⟨A, c, rfl, -, -, -, -, -, hR⟩ := TCore.vals hv
 have IH' := hide IH
 have HR := hide hR
 have hlen := hR.1
 have hcm := hR.2.1
 simp only [List.length_map] at hlen
 unfold maxLen at hcm
 have hC := hide hcnt
 clear IH hR hv hcnt
 go_enter Tryz.func56, Tryz.ntmps56
 go_wp2_with (fail)
 go_loopw [3, 9] (fun nv iv wr => ∃ k : Nat, k ≤ ks.length ∧ iv = .int .i64 k ∧ nv = .int .i64 ((TCore.deps (ks.take k) : Nat)) ∧ Bel (w.alloc (.cells #[.int .i64 op, .int .i64 n, .int .i64 lo, .int .i64 hi, .string t, .slice A ks.length c] 53)) wr) (fun _ iv _ => ks.length - (intOf iv).toNat)
 case atStart => exact ⟨0, Nat.zero_le _, rfl, by simp [TCore.deps], Bel.refl _⟩
 case round =>
  obtain ⟨k, hk, rfl, rfl, hbx⟩ := hrel
  have p5 : wr.cell? ⟨w.heap.size, 5, none⟩ = some (.slice A ks.length c) := (hbx.box _ (by simp) 5).trans (by simp)
  have hbw : Bel w wr := Bel.trans bl hbx
  have hle := hide (TCore.deps_le ks k)
  have hbd : TCore.deps (ks.take k) + 1 ≤ 2000000 := by have := hle.out; have := hC.out; simp only [TCore.dep] at this; omega
  rcases Nat.lt_or_ge k ks.length with hlt | hge
  ·
   have hd : decide ((k : Int) < (ks.length : Int)) = true := by simp; omega
   (obtain ⟨b1, o1, x1_0, x1_1, x1_2, x1_3, x1_4, x1_5, A1_5, C1_5, hA1, hS1, hl1, hx1, hv1, g1_0, g1_1, g1_2, g1_3, g1_4, g1_5, c1_0, c1_1, c1_2, c1_3, c1_4, c1_5⟩ := TCore.at HR.out k hlt; subst hA1; have HV1 := hide (Dat.HoldVals.bel hbw hv1); have hh1 := hbw.box b1 hl1; have hw1 := Nat.lt_of_lt_of_le hl1 (Bel.size hbw); replace c1_0 := (hh1 _).trans c1_0; replace c1_1 := (hh1 _).trans c1_1; replace c1_2 := (hh1 _).trans c1_2; replace c1_3 := (hh1 _).trans c1_3; replace c1_4 := (hh1 _).trans c1_4; replace c1_5 := (hh1 _).trans c1_5; have HX1 := hide hx1; have GR1_5 := hide g1_5; clear hh1 hv1 hx1 hS1 g1_5)
   have hc1 : ks[k].dep ≤ 2000000 := by have h1 := TCore.dep_le hlt; have := hC.out; simp only [TCore.dep] at this; omega
   go_wp2_with (go_at_call 56; (with_reducible refine (IH'.out k hlt S _ _ (Dat.HoldVals.bel bl HV1.out) hc1).mono ?_); rintro e w1 ⟨rfl, hb1⟩)
   go_roundw
   case rel => exact ⟨k + 1, by omega, by go_num, by rw [TCore.deps_take ks k hlt]; first | (go_num; done) | (simp; omega) | (congr 1; omega), bl⟩
   case measure => simp [intOf]; omega
  ·
   have hd : decide ((k : Int) < (ks.length : Int)) = false := by simp; omega
   go_wp2_with (fail)
   go_returns
   exact ⟨ret_i64 (by rw [List.take_of_length_le (by omega)]; simp only [TCore.dep]; omega), hbw⟩
set_option maxHeartbeats 1000000 in
theorem isCset_any (s : ByteArray) (w : World) (hs : s.size ≤ maxLen) :
  Calls Tryz.prog 83 #[.string s] w fun e w' => e = .returned (.bool (ascB s)) ∧ Bel w w' := by
 unfold maxLen at hs
 go_enter Tryz.func83, Tryz.ntmps83
 go_wp2_with (fail)
 go_loopw [3] (fun v wr => ∃ k : Nat, v = .int .i64 k ∧ k ≤ s.size ∧ Hid (∀ j, j < k → ascAt s j = true) ∧ Bel w wr) (fun v _ => s.size - (intOf v).toNat)
 case atStart => exact ⟨0, rfl, by omega, fun j hj => by omega, bl⟩
 case round =>
  obtain ⟨k, rfl, hk, hA, hbw⟩ := hrel
  by_cases h1 : k < s.size
  ·
   have hd : decide ((k : Int) < (s.size : Int)) = true := by simp; omega
   have hB := hide (byteAt_eq s k h1)
   by_cases h2 : byteAt s k ≤ 127
   ·
    have h3 : s[k].toNat ≤ 127 := by rw [hB.out]; exact h2
    have d3 : decide (127 < s[k].toNat) = false := by simp; omega
    have d3i : decide ((127 : Int) < (s[k].toNat : Int)) = false := by simp; omega
    rcases Nat.eq_zero_or_pos k with h0 | h0
    ·
     subst h0
     have HN := hide (show ascAt s 0 = true by unfold ascAt; rw [decide_eq_true h2]; rfl)
     go_wp2_with (fail)
     go_quiet (fail)
     go_wp2_with (fail)
     go_roundw
     case rel => exact ⟨1, by go_num, by omega, hide (fun j hj => by obtain rfl : j = 0 := (by omega); exact HN.out), bl⟩
     case measure => simp [intOf]; omega
    ·
     have h4 : k - 1 < s.size := by omega
     have hB4 := hide (byteAt_eq s (k - 1) h4)
     have d0 : decide ((0 : Int) < (k : Int)) = true := by simp; omega
     have d0n : decide (0 < k) = true := by simp; omega
     have ek : (k : Int) - 1 = ((k - 1 : Nat) : Int) := by omega
     by_cases h5 : byteAt s (k - 1) < byteAt s k
     ·
      have HN := hide (show ascAt s k = true by unfold ascAt; rw [decide_eq_true h2, decide_eq_true h5]; simp)
      have d5 : decide (s[k].toNat ≤ s[k - 1].toNat) = false := by rw [hB.out, hB4.out]; simp; omega
      have d5i : decide ((s[k].toNat : Int) ≤ (s[k - 1].toNat : Int)) = false := by rw [hB.out, hB4.out]; simp; omega
      go_wp2_with (fail)
      go_quiet (fail)
      go_wp2_with (fail)
      go_roundw
      case rel => exact ⟨k + 1, by go_num, by omega, hide (fun j hj => by
       by_cases e : j = k
       ·
        subst e; exact HN.out
       ·
        exact hA.out j (by omega)), bl⟩
      case measure => simp [intOf]; omega
     ·
      have HN := hide (ascB_no h1 (show ascAt s k = false by unfold ascAt; rw [decide_eq_false h5, decide_eq_false (show ¬ k = 0 by omega)]; simp))
      have d5 : decide (s[k].toNat ≤ s[k - 1].toNat) = true := by rw [hB.out, hB4.out]; simp; omega
      have d5i : decide ((s[k].toNat : Int) ≤ (s[k - 1].toNat : Int)) = true := by rw [hB.out, hB4.out]; simp; omega
      go_wp2_with (fail)
      go_quiet (fail)
      go_wp2_with (fail)
      all_goals
       go_returns
       exact ⟨by rw [HN.out]; first | done | rfl, bl⟩
   ·
    have h3 : 127 < s[k].toNat := by rw [hB.out]; omega
    have d3 : decide (127 < s[k].toNat) = true := by simp; omega
    have d3i : decide ((127 : Int) < (s[k].toNat : Int)) = true := by simp; omega
    have HN := hide (ascB_no h1 (show ascAt s k = false by unfold ascAt; rw [decide_eq_false h2]; rfl))
    go_wp2_with (fail)
    go_quiet (fail)
    go_wp2_with (fail)
    all_goals
     go_returns
     exact ⟨by rw [HN.out]; first | done | rfl, bl⟩
  ·
   have hd : decide ((k : Int) < (s.size : Int)) = false := by simp; omega
   have HN := hide (show ascB s = true from List.all_eq_true.2 fun j hj => hA.out j (by have := List.mem_range.1 hj; omega))
   go_wp2_with (fail)
   all_goals
    go_returns
    exact ⟨by rw [HN.out]; first | done | rfl, bl⟩
end Go.Proofs.YtgofbnmablgedaaGreatDoor
namespace Go.Proofs.YtgofbnmablgedaaGreatDoor
set_option linter.unusedVariables false
set_option linter.unusedSimpArgs false
set_option maxRecDepth 100000
open Go.RowKit
def numOk (sl gl ro re k n : Int) : Bool := if k = 1 then decide (-999999999999 ≤ n) && decide (n ≤ 999999999999) else if k = 5 then decide (0 ≤ n) && decide (n ≤ sl - 1) else if k = 6 then decide (0 ≤ n) && decide (n ≤ gl - 1)
 else if k = 7 then decide (0 ≤ n) && decide (n ≤ ro - 1) else if k = 8 then decide (0 ≤ n) && decide (n ≤ 54) else if k = 9 then decide (0 ≤ n) && decide (n ≤ re - 1) else if k = 10 then decide (1 ≤ n) && decide (n ≤ 2) else decide (n = 0)
def txtOk (k : Int) (t : ByteArray) : Bool := if k = 2 then decide (t.size ≤ 120) else if k = 3 then ascB t else decide (t.size = 0)
def ctxOk (k : Int) (loop made : Bool) : Bool := if k = 20 ∨ k = 21 then loop else if 23 ≤ k ∧ k ≤ 25 then !made else true
def TCore.kind : TCore → Int | .mk k _ _ _ _ _ => k
def TCore.text : TCore → ByteArray | .mk _ _ _ _ t _ => t
def kidsOk (op : Int) (ks : List TCore) : Bool := if op = 79 then (match ks with | _ :: b :: _ => decide (b.kind = 2) && nameB b.text | _ => false) else if op = 81 then (match ks with | a :: _ => decide (a.kind = 5 ∨ a.kind = 6) | [] => false) else true
def hdOk (k op li : Int) (m : Nat) : Bool := decide (1 ≤ k) && decide (k ≤ 28) && decide (0 ≤ li) && decide ((lohi k op).1 ≤ (m : Int)) && decide ((m : Int) ≤ (lohi k op).2)
def opOk (k op : Int) : Bool := decide (k = 11) || decide (op = 0)
def innerB (k : Int) (i : Nat) (loop : Bool) : Bool := if k = 18 ∨ k = 19 then decide (i = 1) else if k = 20 ∨ k = 26 then false else loop
mutual
def TCore.vld (sl gl ro re : Int) : TCore → Bool → Bool → Bool
 | .mk k op n li t ks, loop, made => hdOk k op li ks.length && numOk sl gl ro re k n && opOk k op && txtOk k t && ctxOk k loop made && kidsOk op ks && TCore.vlds sl gl ro re k loop (made || decide (k = 26)) 0 ks
def TCore.vlds (sl gl ro re k : Int) (loop made : Bool) : Nat → List TCore → Bool
 | _, [] => true
 | i, x :: r => TCore.vld sl gl ro re x (innerB k i loop) made && TCore.vlds sl gl ro re k loop made (i + 1) r
end
theorem TCore.vlds_at {sl gl ro re k : Int} {loop made : Bool} : ∀ {l : List TCore} {i m : Nat} (h : m < l.length), l[m].vld sl gl ro re (innerB k (i + m) loop) made = false → TCore.vlds sl gl ro re k loop made i l = false
 | x :: r, i, 0, _, h => by simp only [TCore.vlds]; simp at h; rw [h]; rfl
 | x :: r, i, m + 1, hm, h => by
  simp only [TCore.vlds]
  rw [TCore.vlds_at (l := r) (i := i + 1) (m := m) (by simpa using hm) (by rw [show i + 1 + m = i + (m + 1) by omega]; simpa using h), Bool.and_false]
theorem TCore.vlds_all {sl gl ro re k : Int} {loop made : Bool} : ∀ {l : List TCore} {i : Nat}, (∀ m (h : m < l.length), l[m].vld sl gl ro re (innerB k (i + m) loop) made = true) → TCore.vlds sl gl ro re k loop made i l = true
 | [], _, _ => rfl
 | x :: r, i, h => by
  simp only [TCore.vlds]
  have h0 := h 0 (by simp)
  simp only [Nat.add_zero, List.getElem_cons_zero] at h0
  rw [h0, TCore.vlds_all (l := r) (i := i + 1) fun m hm => by
   have := h (m + 1) (by simpa using hm)
   rw [show i + 1 + m = i + (m + 1) by omega]
   simpa using this]
  rfl
theorem vld_mk {sl gl ro re k op n li : Int} {t : ByteArray} {ks : List TCore} {loop made : Bool} : (TCore.mk k op n li t ks).vld sl gl ro re loop made = (hdOk k op li ks.length && numOk sl gl ro re k n && opOk k op && txtOk k t && ctxOk k loop made && kidsOk op ks && TCore.vlds sl gl ro re k loop (made || decide (k = 26)) 0 ks) := by simp only [TCore.vld]
set_option maxHeartbeats 2000000 in
theorem l10Leaf_any (m0 m1 m2 c0 c1 c2 m c : Nat) (A0 A1 A2 A : Option Addr) (mn sl k op n li : Int) (t : ByteArray) (w : World) (h0 : m0 ≤ 1000000000) (h1 : m1 ≤ 1000000000) (h2 : m2 ≤ 1000000000) (hs0 : 0 ≤ sl) (hs1 : sl ≤ 1000000000) :
  Calls Tryz.prog 72 #[.agg #[.slice A0 m0 c0, .slice A1 m1 c1, .slice A2 m2 c2, .int .i64 mn], .int .i64 sl, .agg #[.int .i64 k, .int .i64 op, .int .i64 n, .int .i64 li, .string t, .slice A m c]] w fun e w' => e = .returned (.bool (numOk sl m2 m0 m1 k n)) ∧ Bel w w' := by

 rcases (by omega : k = 1 ∨ k = 5 ∨ k = 6 ∨ k = 7 ∨ k = 8 ∨ k = 9 ∨ k = 10 ∨ (k ≠ 1 ∧ k ≠ 5 ∧ k ≠ 6 ∧ k ≠ 7 ∧ k ≠ 8 ∧ k ≠ 9 ∧ k ≠ 10)) with rfl | rfl | rfl | rfl | rfl | rfl | rfl | ⟨h101, h105, h106, h107, h108, h109, h110⟩
 ·
  rw [show numOk sl m2 m0 m1 1 n = (decide (-999999999999 ≤ n) && decide (n ≤ 999999999999)) by unfold numOk; rw [if_pos rfl]]
  by_cases ha : -999999999999 ≤ n
  ·
   have da : decide ((-999999999999 : Int) ≤ n) = true := by simpa using ha
   go_enter Tryz.func72, Tryz.ntmps72
   go_wp2_with (fail)
   all_goals
    go_returns
    exact ⟨by simp [ha], bl⟩
  ·
   have da : decide ((-999999999999 : Int) ≤ n) = false := by simpa using ha
   go_enter Tryz.func72, Tryz.ntmps72
   go_wp2_with (fail)
   all_goals
    go_returns
    exact ⟨by simp [ha], bl⟩
 ·
  rw [show numOk sl m2 m0 m1 5 n = (decide (0 ≤ n) && decide (n ≤ sl - 1)) by unfold numOk; simp]
  go_enter Tryz.func72, Tryz.ntmps72
  go_wp2_with (go_at_call 17; refine (l1In_any _ _ _ _).mono ?_; rintro e w9 ⟨rfl, rfl⟩)
  all_goals
   go_returns
   exact ⟨by rfl, bl⟩
 ·
  rw [show numOk sl m2 m0 m1 6 n = (decide (0 ≤ n) && decide (n ≤ (m2 : Int) - 1)) by unfold numOk; simp]
  go_enter Tryz.func72, Tryz.ntmps72
  go_wp2_with (go_at_call 17; refine (l1In_any _ _ _ _).mono ?_; rintro e w9 ⟨rfl, rfl⟩)
  all_goals
   go_returns
   exact ⟨by rfl, bl⟩
 ·
  rw [show numOk sl m2 m0 m1 7 n = (decide (0 ≤ n) && decide (n ≤ (m0 : Int) - 1)) by unfold numOk; simp]
  go_enter Tryz.func72, Tryz.ntmps72
  go_wp2_with (go_at_call 17; refine (l1In_any _ _ _ _).mono ?_; rintro e w9 ⟨rfl, rfl⟩)
  all_goals
   go_returns
   exact ⟨by rfl, bl⟩
 ·
  rw [show numOk sl m2 m0 m1 8 n = (decide (0 ≤ n) && decide (n ≤ 54)) by unfold numOk; simp]
  go_enter Tryz.func72, Tryz.ntmps72
  go_wp2_with (go_at_call 17; refine (l1In_any _ _ _ _).mono ?_; rintro e w9 ⟨rfl, rfl⟩)
  all_goals
   go_returns
   exact ⟨by rfl, bl⟩
 ·
  rw [show numOk sl m2 m0 m1 9 n = (decide (0 ≤ n) && decide (n ≤ (m1 : Int) - 1)) by unfold numOk; simp]
  go_enter Tryz.func72, Tryz.ntmps72
  go_wp2_with (go_at_call 17; refine (l1In_any _ _ _ _).mono ?_; rintro e w9 ⟨rfl, rfl⟩)
  all_goals
   go_returns
   exact ⟨by rfl, bl⟩
 ·
  rw [show numOk sl m2 m0 m1 10 n = (decide (1 ≤ n) && decide (n ≤ 2)) by unfold numOk; simp]
  go_enter Tryz.func72, Tryz.ntmps72
  go_wp2_with (go_at_call 17; refine (l1In_any _ _ _ _).mono ?_; rintro e w9 ⟨rfl, rfl⟩)
  all_goals
   go_returns
   exact ⟨by rfl, bl⟩
 ·
  rw [show numOk sl m2 m0 m1 k n = decide (n = 0) by unfold numOk; simp [h101, h105, h106, h107, h108, h109, h110]]
  have e1 : (k == 1) = false := by rw [beq_eq_false_iff_ne]; exact h101
  have e5 : (k == 5) = false := by rw [beq_eq_false_iff_ne]; exact h105
  have e6 : (k == 6) = false := by rw [beq_eq_false_iff_ne]; exact h106
  have e7 : (k == 7) = false := by rw [beq_eq_false_iff_ne]; exact h107
  have e8 : (k == 8) = false := by rw [beq_eq_false_iff_ne]; exact h108
  have e9 : (k == 9) = false := by rw [beq_eq_false_iff_ne]; exact h109
  have e10 : (k == 10) = false := by rw [beq_eq_false_iff_ne]; exact h110
  clear h101 h105 h106 h107 h108 h109 h110
  go_enter Tryz.func72, Tryz.ntmps72
  go_wp2_with (fail)
  all_goals
   go_returns
   exact ⟨by first | rfl | (congr 1; rw [Bool.eq_iff_iff]; simp), bl⟩
end Go.Proofs.YtgofbnmablgedaaGreatDoor
namespace Go.Proofs.YtgofbnmablgedaaGreatDoor
set_option linter.unusedVariables false
set_option linter.unusedSimpArgs false
set_option maxRecDepth 100000
open Go.RowKit
def txt2 (k : Int) (t : ByteArray) : Bool := (decide (k = 2) || decide (k = 3) || decide (t.size = 0)) && decide (t.size ≤ 128) && (!decide (k = 2) || decide (t.size ≤ 120))
theorem txt2_no {k : Int} {t : ByteArray} (h : txt2 k t = false) : txtOk k t = false := by
 unfold txtOk
 by_cases h2 : k = 2
 ·
  subst h2
  rw [if_pos rfl]
  by_cases q : t.size ≤ 120
  ·
   have q2 : t.size ≤ 128 := by omega
   unfold txt2 at h
   simp [q, q2] at h
  ·
   exact decide_eq_false q
 ·
  rw [if_neg h2]
  by_cases h3 : k = 3
  ·
   subst h3
   rw [if_pos rfl]
   cases ha : ascB t
   ·
    rfl
   ·
    have := asc_size ha
    unfold txt2 at h
    simp [this] at h
  ·
   rw [if_neg h3]
   by_cases q : t.size = 0
   ·
    unfold txt2 at h
    simp [h2, q] at h
   ·
    exact decide_eq_false q
theorem txt2_yes {k : Int} {t : ByteArray} (h : txt2 k t = true) (h3 : ¬ k = 3) : txtOk k t = true := by
 unfold txtOk
 rw [if_neg h3]
 unfold txt2 at h
 by_cases h2 : k = 2
 ·
  rw [if_pos h2]
  by_cases q : t.size ≤ 120
  ·
   exact decide_eq_true q
  ·
   simp [h2, q] at h
 ·
  rw [if_neg h2]
  by_cases q : t.size = 0
  ·
   exact decide_eq_true q
  ·
   simp [h2, h3, q] at h
theorem vld_no {sl gl ro re k op n li : Int} {t : ByteArray} {ks : List TCore} {loop made d : Bool} (h : (hdOk k op li ks.length && numOk sl gl ro re k n && opOk k op && txtOk k t && ctxOk k loop made && kidsOk op ks) = false) :
  (d && (TCore.mk k op n li t ks).vld sl gl ro re loop made) = false := by rw [vld_mk, h, Bool.false_and, Bool.and_false]
theorem vld_kid {sl gl ro re k op n li deep : Int} {t : ByteArray} {ks : List TCore} {loop made : Bool} (m : Nat) (hm : m < ks.length) (h : (decide (deep + 1 + (ks[m].dep : Int) ≤ 401) && ks[m].vld sl gl ro re (innerB k m loop) (made || decide (k = 26))) = false) :
  (decide (deep + ((TCore.mk k op n li t ks).dep : Int) ≤ 401) && (TCore.mk k op n li t ks).vld sl gl ro re loop made) = false := by
 rw [Bool.and_eq_false_iff] at h ⊢
 rcases h with h | h
 ·
  refine Or.inl ?_
  rw [decide_eq_false_iff_not] at h ⊢
  have := TCore.dep_le hm
  simp only [TCore.dep]
  omega
 ·
  refine Or.inr ?_
  rw [vld_mk, TCore.vlds_at (m := m) (i := 0) hm (by rw [Nat.zero_add]; exact h), Bool.and_false]
theorem vld_yes {sl gl ro re k op n li deep : Int} {t : ByteArray} {ks : List TCore} {loop made : Bool} (hd : deep ≤ 400) (h : (hdOk k op li ks.length && numOk sl gl ro re k n && opOk k op && txtOk k t && ctxOk k loop made && kidsOk op ks) = true)
  (hk : ∀ m (hm : m < ks.length), (decide (deep + 1 + (ks[m].dep : Int) ≤ 401) && ks[m].vld sl gl ro re (innerB k m loop) (made || decide (k = 26))) = true) :
  (decide (deep + ((TCore.mk k op n li t ks).dep : Int) ≤ 401) && (TCore.mk k op n li t ks).vld sl gl ro re loop made) = true := by
 rw [vld_mk, h, TCore.vlds_all (i := 0) fun m hm => by rw [Nat.zero_add]; exact (Bool.and_eq_true_iff.1 (hk m hm)).2]
 have : TCore.deps ks ≤ (400 - deep).toNat := (TCore.deps_iff _ ks).2 fun x hx => by
  obtain ⟨m, hm, rfl⟩ := List.mem_iff_getElem.1 hx
  have := (Bool.and_eq_true_iff.1 (hk m hm)).1
  rw [decide_eq_true_eq] at this
  omega
 have h5 : deep + ((TCore.mk k op n li t ks).dep : Int) ≤ 401 := by simp only [TCore.dep]; omega
 rw [decide_eq_true h5]
 rfl
theorem arity79 : opArity 79 = (2, 2) := by decide +kernel
theorem arity81 : opArity 81 = (1, 1) := by decide +kernel
theorem ks_two {k op li : Int} {ks : List TCore} (h : hdOk k op li ks.length = true) (hk : k = 11) (ho : op = 79) : ∃ a b, ks = [a, b] := by
 subst hk ho
 unfold hdOk lohi at h
 rw [if_pos rfl, arity79] at h
 simp at h
 match ks, h with
 | [a, b], _ => exact ⟨a, b, rfl⟩
 | [], h => simp at h
 | [a], h => simp at h
 | a :: b :: c :: r, h => simp at h; omega
theorem ks_one {k op li : Int} {ks : List TCore} (h : hdOk k op li ks.length = true) (hk : k = 11) (ho : op = 81) : ∃ a, ks = [a] := by
 subst hk ho
 unfold hdOk lohi at h
 rw [if_pos rfl, arity81] at h
 simp at h
 match ks, h with
 | [a], _ => exact ⟨a, rfl⟩
 | [], h => simp at h
 | a :: b :: r, h => simp at h; omega
abbrev SVld (t : TCore) : Prop := ∀ (S : Nat → Prop) (w : World) (vs : List Value) (m0 m1 m2 c0 c1 c2 : Nat) (A0 A1 A2 : Option Addr) (mn sl deep : Int) (loop made : Bool), Dat.HoldVals w S t.D vs → m0 ≤ 1000000000 → m1 ≤ 1000000000 → m2 ≤ 1000000000 → 0 ≤ sl → sl ≤ 1000000000 → 1 ≤ deep → deep ≤ 401 →
 Calls Tryz.prog 46 #[.agg #[.slice A0 m0 c0, .slice A1 m1 c1, .slice A2 m2 c2, .int .i64 mn], .int .i64 sl, .agg vs.toArray, .bool loop, .bool made, .int .i64 deep] w fun e w' => e = .returned (.bool (decide (deep + (t.dep : Int) ≤ 401) && t.vld sl m2 m0 m1 loop made)) ∧ Bel w w'
end Go.Proofs.YtgofbnmablgedaaGreatDoor
