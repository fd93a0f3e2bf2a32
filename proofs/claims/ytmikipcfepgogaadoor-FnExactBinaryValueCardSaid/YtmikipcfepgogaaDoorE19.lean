/- Arithmetic of the reference: l15Compute and l15Power. -/
import Derived.Test.YtmikipcfepgogaaDoorE18
namespace Go.Proofs.YtmikipcfepgogaaDoor
set_option linter.unusedVariables false
set_option linter.unusedSimpArgs false
set_option maxRecDepth 100000
open Go.RowKit

def rng (n : Int) : Int × Int := if intOk n then (n, 0) else (0, 203)
/-- Powers, one factor after the other. -/
def pwF (a : Int) : Nat → Int → Int × Int
  | 0, n => (n, 0)
  | f + 1, n => if mulOk n a then pwF a f (n * a) else (0, 203)
def powR (a b : Int) : Int × Int :=
  if b < 0 ∧ a = 0 then (0, 201) else if a = 1 then (1, 0) else if a = -1 then (if b.tmod 2 = 0 then (1, 0) else (-1, 0)) else if b < 0 then (0, 0) else if a = 0 ∧ 0 < b then (0, 0) else pwF a b.toNat 1
def arR (op a b : Int) : Int × Int :=
  if op = 20 then rng (a + b) else if op = 21 then rng (a - b) else if op = 22 then (if mulOk a b then (a * b, 0) else (0, 203)) else if op = 25 then powR a b else if b = 0 then (0, 201) else if op = 23 then rng (a.tdiv b) else rng (a.tmod b)

theorem rng_yes {n : Int} (h1 : -999999999999 ≤ n) (h2 : n ≤ 999999999999) : rng n = (n, 0) := by simp [rng, intOk, h1, h2]
theorem rng_no {n : Int} (h : n < -999999999999 ∨ 999999999999 < n) : rng n = (0, 203) := by
  have : intOk n = false := by simp [intOk]; omega
  simp [rng, this]
theorem tdiv_in {a b : Int} (ha : InM a) (hb : b ≠ 0) : InM (a.tdiv b) := by
  unfold InM at *
  have h : (a.tdiv b).natAbs = a.natAbs / b.natAbs := Int.natAbs_tdiv a b
  have h2 : a.natAbs / b.natAbs ≤ a.natAbs := Nat.div_le_self _ _
  rw [← h] at h2
  clear h
  omega
theorem tmod_in {a b : Int} (ha : InM a) : InM (a.tmod b) := by
  unfold InM at *
  have h : (a.tmod b).natAbs = a.natAbs % b.natAbs := Int.natAbs_tmod a b
  have h2 : a.natAbs % b.natAbs ≤ a.natAbs := Nat.mod_le _ _
  rw [← h] at h2
  clear h
  omega
theorem in_wrap {n : Int} (h : InM n) : IntKind.i64.wrap n = n := by
  unfold InM at h
  rw [IntKind.wrap_i64]
  omega
theorem in_wrap' {n : Int} (h : InM n) : wrap64 n = n := by
  unfold InM at h
  unfold wrap64
  omega

set_option maxHeartbeats 1000000 in
theorem specCompute_20 (a b : Int) (w : World) (ha : InM a) (hb : InM b) :
    Calls Tryd.prog 87 #[.int .i64 20, .int .i64 a, .int .i64 b] w fun e w' => e = .returned (.tuple #[.int .i64 (rng (a + b)).1, .int .i64 (rng (a + b)).2]) ∧ Bel w w' := by
  unfold InM at ha hb
  by_cases h1 : -999999999999 ≤ a + b
  · by_cases h2 : a + b ≤ 999999999999
    · have hF := hide (rng_yes h1 h2)
      go_enter Tryd.func87, Tryd.ntmps87
      go_wp2_with (fail)
      all_goals
        go_returns
        rw [hF.out]
        exact ⟨rfl, (by repeat' (first | with_reducible exact Bel.refl _ | with_reducible assumption | with_reducible refine Bel.set ?_ ?_ _ | with_reducible refine Bel.alloc ?_ _ | with_reducible refine Bel.drew ?_ | with_reducible refine Bel.drewN ?_ _ | with_reducible refine Bel.trans ?_ (by with_reducible assumption) | (simp; done) | (simp; omega) | refine Bel.alloc ?_ _ | refine Bel.drew ?_ | refine Bel.drewN ?_ _ | refine Bel.set ?_ ?_ _))⟩
    · have hF := hide (rng_no (n := a + b) (by omega))
      go_enter Tryd.func87, Tryd.ntmps87
      go_wp2_with (fail)
      all_goals
        go_returns
        rw [hF.out]
        exact ⟨rfl, (by repeat' (first | with_reducible exact Bel.refl _ | with_reducible assumption | with_reducible refine Bel.set ?_ ?_ _ | with_reducible refine Bel.alloc ?_ _ | with_reducible refine Bel.drew ?_ | with_reducible refine Bel.drewN ?_ _ | with_reducible refine Bel.trans ?_ (by with_reducible assumption) | (simp; done) | (simp; omega) | refine Bel.alloc ?_ _ | refine Bel.drew ?_ | refine Bel.drewN ?_ _ | refine Bel.set ?_ ?_ _))⟩
  · have hF := hide (rng_no (n := a + b) (by omega))
    have h3 : ¬ 999999999999 < a + b := by omega
    go_enter Tryd.func87, Tryd.ntmps87
    go_wp2_with (fail)
    all_goals
      go_returns
      rw [hF.out]
      exact ⟨rfl, (by repeat' (first | with_reducible exact Bel.refl _ | with_reducible assumption | with_reducible refine Bel.set ?_ ?_ _ | with_reducible refine Bel.alloc ?_ _ | with_reducible refine Bel.drew ?_ | with_reducible refine Bel.drewN ?_ _ | with_reducible refine Bel.trans ?_ (by with_reducible assumption) | (simp; done) | (simp; omega) | refine Bel.alloc ?_ _ | refine Bel.drew ?_ | refine Bel.drewN ?_ _ | refine Bel.set ?_ ?_ _))⟩
set_option maxHeartbeats 1000000 in
theorem specCompute_21 (a b : Int) (w : World) (ha : InM a) (hb : InM b) :
    Calls Tryd.prog 87 #[.int .i64 21, .int .i64 a, .int .i64 b] w fun e w' => e = .returned (.tuple #[.int .i64 (rng (a - b)).1, .int .i64 (rng (a - b)).2]) ∧ Bel w w' := by
  unfold InM at ha hb
  by_cases h1 : -999999999999 ≤ a - b
  · by_cases h2 : a - b ≤ 999999999999
    · have hF := hide (rng_yes h1 h2)
      go_enter Tryd.func87, Tryd.ntmps87
      go_wp2_with (fail)
      all_goals
        go_returns
        rw [hF.out]
        exact ⟨rfl, (by repeat' (first | with_reducible exact Bel.refl _ | with_reducible assumption | with_reducible refine Bel.set ?_ ?_ _ | with_reducible refine Bel.alloc ?_ _ | with_reducible refine Bel.drew ?_ | with_reducible refine Bel.drewN ?_ _ | with_reducible refine Bel.trans ?_ (by with_reducible assumption) | (simp; done) | (simp; omega) | refine Bel.alloc ?_ _ | refine Bel.drew ?_ | refine Bel.drewN ?_ _ | refine Bel.set ?_ ?_ _))⟩
    · have hF := hide (rng_no (n := a - b) (by omega))
      go_enter Tryd.func87, Tryd.ntmps87
      go_wp2_with (fail)
      all_goals
        go_returns
        rw [hF.out]
        exact ⟨rfl, (by repeat' (first | with_reducible exact Bel.refl _ | with_reducible assumption | with_reducible refine Bel.set ?_ ?_ _ | with_reducible refine Bel.alloc ?_ _ | with_reducible refine Bel.drew ?_ | with_reducible refine Bel.drewN ?_ _ | with_reducible refine Bel.trans ?_ (by with_reducible assumption) | (simp; done) | (simp; omega) | refine Bel.alloc ?_ _ | refine Bel.drew ?_ | refine Bel.drewN ?_ _ | refine Bel.set ?_ ?_ _))⟩
  · have hF := hide (rng_no (n := a - b) (by omega))
    have h3 : ¬ 999999999999 < a - b := by omega
    go_enter Tryd.func87, Tryd.ntmps87
    go_wp2_with (fail)
    all_goals
      go_returns
      rw [hF.out]
      exact ⟨rfl, (by repeat' (first | with_reducible exact Bel.refl _ | with_reducible assumption | with_reducible refine Bel.set ?_ ?_ _ | with_reducible refine Bel.alloc ?_ _ | with_reducible refine Bel.drew ?_ | with_reducible refine Bel.drewN ?_ _ | with_reducible refine Bel.trans ?_ (by with_reducible assumption) | (simp; done) | (simp; omega) | refine Bel.alloc ?_ _ | refine Bel.drew ?_ | refine Bel.drewN ?_ _ | refine Bel.set ?_ ?_ _))⟩
def mulC (a b : Int) : Int := if mulOk a b then 0 else 203
theorem quo_lt {x y : Nat} (h1 : 1 ≤ x) (h : 999999999999 < x * y) : 999999999999 / (x : Int) < (y : Int) := by
  have : 999999999999 / x < y := by
    rw [Nat.div_lt_iff_lt_mul (by omega), Nat.mul_comm]
    exact h
  have e : ((999999999999 / x : Nat) : Int) = 999999999999 / (x : Int) := by simp
  rw [← e]
  omega
theorem quo_ge {x y : Nat} (h1 : 1 ≤ x) (h : x * y ≤ 999999999999) : (y : Int) ≤ 999999999999 / (x : Int) := by
  have : y ≤ 999999999999 / x := by
    rw [Nat.le_div_iff_mul_le (by omega), Nat.mul_comm]
    exact h
  have e : ((999999999999 / x : Nat) : Int) = 999999999999 / (x : Int) := by simp
  rw [← e]
  omega
set_option maxHeartbeats 1000000 in
theorem specCompute_22 (a b : Int) (w : World) (ha : InM a) (hb : InM b) :
    Calls Tryd.prog 87 #[.int .i64 22, .int .i64 a, .int .i64 b] w fun e w' => e = .returned (.tuple #[.int .i64 (mulV a b), .int .i64 (mulC a b)]) ∧ Bel w w' := by
  by_cases h0 : a = 0
  · subst h0
    have hV := hide (show mulV 0 b = 0 by simp [mulV])
    have hC := hide (show mulC 0 b = 0 by simp [mulC, mulOk])
    go_enter Tryd.func87, Tryd.ntmps87
    go_wp2_with (fail)
    all_goals
      go_returns
      rw [hV.out, hC.out]
      exact ⟨rfl, (by repeat' (first | with_reducible exact Bel.refl _ | with_reducible assumption | with_reducible refine Bel.set ?_ ?_ _ | with_reducible refine Bel.alloc ?_ _ | with_reducible refine Bel.drew ?_ | with_reducible refine Bel.drewN ?_ _ | with_reducible refine Bel.trans ?_ (by with_reducible assumption) | (simp; done) | (simp; omega) | refine Bel.alloc ?_ _ | refine Bel.drew ?_ | refine Bel.drewN ?_ _ | refine Bel.set ?_ ?_ _))⟩
  · have e0 : (a != 0) = true := by simp [h0]
    have na := natAbs_le ha
    have nb := natAbs_le hb
    have HA := hide (fun w => specAbs_any a w ha)
    have HB := hide (fun w => specAbs_any b w hb)
    have x1 : 1 ≤ a.natAbs := by omega
    cases hm : mulOk a b
    · have hV := hide (show mulV a b = 0 by simp [mulV, hm])
      have hC := hide (show mulC a b = 203 by simp [mulC, hm])
      have hgt : 999999999999 < a.natAbs * b.natAbs := by
        have : ¬ a.natAbs * b.natAbs ≤ 999999999999 := by simpa [mulOk] using hm
        omega
      have hq := quo_lt x1 hgt
      have hd : decide (999999999999 / ((a.natAbs : Nat) : Int) < ((b.natAbs : Nat) : Int)) = true := by simp only [decide_eq_true_eq]; exact hq
      clear hm hgt h0
      generalize a.natAbs = x at *
      generalize b.natAbs = y at *
      go_enter Tryd.func87, Tryd.ntmps87
      go_wp2_with (first
        | (go_at_call 105; refine (HA.out _).mono ?_; rintro e w1 ⟨rfl, rfl⟩)
        | (go_at_call 105; refine (HB.out _).mono ?_; rintro e w1 ⟨rfl, rfl⟩))
      all_goals
        go_returns
        rw [hV.out, hC.out]
        exact ⟨rfl, (by repeat' (first | with_reducible exact Bel.refl _ | with_reducible assumption | with_reducible refine Bel.set ?_ ?_ _ | with_reducible refine Bel.alloc ?_ _ | with_reducible refine Bel.drew ?_ | with_reducible refine Bel.drewN ?_ _ | with_reducible refine Bel.trans ?_ (by with_reducible assumption) | (simp; done) | (simp; omega) | refine Bel.alloc ?_ _ | refine Bel.drew ?_ | refine Bel.drewN ?_ _ | refine Bel.set ?_ ?_ _))⟩
    · have hV := hide (show mulV a b = a * b by simp [mulV, hm])
      have hC := hide (show mulC a b = 0 by simp [mulC, hm])
      have hin := mul_in hm
      have hle : a.natAbs * b.natAbs ≤ 999999999999 := by simpa [mulOk] using hm
      have hq := quo_ge x1 hle
      have hd : decide (999999999999 / ((a.natAbs : Nat) : Int) < ((b.natAbs : Nat) : Int)) = false := by simp only [decide_eq_false_iff_not]; omega
      have hW := hide (mul_wrap hm)
      have hW2 := hide (mul_wrap' hm)
      unfold InM at hin
      obtain ⟨m1, m2⟩ := hin
      have m3 : ¬ 999999999999 < a * b := by omega
      have m4 : ¬ a * b < -999999999999 := by omega
      have m5 := hW.out
      clear hm hle h0
      generalize a.natAbs = x at *
      generalize b.natAbs = y at *
      go_enter Tryd.func87, Tryd.ntmps87
      go_wp2_with (first
        | (go_at_call 105; refine (HA.out _).mono ?_; rintro e w1 ⟨rfl, rfl⟩)
        | (go_at_call 105; refine (HB.out _).mono ?_; rintro e w1 ⟨rfl, rfl⟩))
      all_goals
        go_returns
        rw [hV.out, hC.out]
        exact ⟨rfl, (by repeat' (first | with_reducible exact Bel.refl _ | with_reducible assumption | with_reducible refine Bel.set ?_ ?_ _ | with_reducible refine Bel.alloc ?_ _ | with_reducible refine Bel.drew ?_ | with_reducible refine Bel.drewN ?_ _ | with_reducible refine Bel.trans ?_ (by with_reducible assumption) | (simp; done) | (simp; omega) | refine Bel.alloc ?_ _ | refine Bel.drew ?_ | refine Bel.drewN ?_ _ | refine Bel.set ?_ ?_ _))⟩
set_option maxHeartbeats 1000000 in
theorem specCompute_0 (op a : Int) (w : World) (ho : op = 23 ∨ op = 24) :
    Calls Tryd.prog 87 #[.int .i64 op, .int .i64 a, .int .i64 0] w fun e w' => e = .returned (.tuple #[.int .i64 0, .int .i64 201]) ∧ Bel w w' := by
  rcases ho with rfl | rfl
  all_goals
    go_enter Tryd.func87, Tryd.ntmps87
    go_wp2_with (fail)
    all_goals
      go_returns
      exact ⟨rfl, (by repeat' (first | with_reducible exact Bel.refl _ | with_reducible assumption | with_reducible refine Bel.set ?_ ?_ _ | with_reducible refine Bel.alloc ?_ _ | with_reducible refine Bel.drew ?_ | with_reducible refine Bel.drewN ?_ _ | with_reducible refine Bel.trans ?_ (by with_reducible assumption) | (simp; done) | (simp; omega) | refine Bel.alloc ?_ _ | refine Bel.drew ?_ | refine Bel.drewN ?_ _ | refine Bel.set ?_ ?_ _))⟩
set_option maxHeartbeats 1000000 in
theorem specCompute_23 (a b : Int) (w : World) (ha : InM a) (hb : InM b) (h0 : ¬ b = 0) :
    Calls Tryd.prog 87 #[.int .i64 23, .int .i64 a, .int .i64 b] w fun e w' => e = .returned (.tuple #[.int .i64 (a.tdiv b), .int .i64 0]) ∧ Bel w w' := by
  have e0 : (b == 0) = false := by simp [h0]
  have hin := tdiv_in ha h0
  have hW := in_wrap hin
  have hin' := hin
  unfold InM at hin' ha hb
  obtain ⟨m1, m2⟩ := hin'
  go_enter Tryd.func87, Tryd.ntmps87
  go_wp2_with (fail)
  all_goals
    go_returns
    exact ⟨rfl, (by repeat' (first | with_reducible exact Bel.refl _ | with_reducible assumption | with_reducible refine Bel.set ?_ ?_ _ | with_reducible refine Bel.alloc ?_ _ | with_reducible refine Bel.drew ?_ | with_reducible refine Bel.drewN ?_ _ | with_reducible refine Bel.trans ?_ (by with_reducible assumption) | (simp; done) | (simp; omega) | refine Bel.alloc ?_ _ | refine Bel.drew ?_ | refine Bel.drewN ?_ _ | refine Bel.set ?_ ?_ _))⟩
set_option maxHeartbeats 1000000 in
theorem specCompute_24 (a b : Int) (w : World) (ha : InM a) (hb : InM b) (h0 : ¬ b = 0) :
    Calls Tryd.prog 87 #[.int .i64 24, .int .i64 a, .int .i64 b] w fun e w' => e = .returned (.tuple #[.int .i64 (a.tmod b), .int .i64 0]) ∧ Bel w w' := by
  have e0 : (b == 0) = false := by simp [h0]
  have hin := tdiv_in ha h0
  have hin2 := tmod_in (b := b) ha
  have hW := in_wrap hin
  have hW2 := in_wrap hin2
  have hin' := hin
  have hin2' := hin2
  unfold InM at hin' hin2' ha hb
  obtain ⟨m1, m2⟩ := hin'
  obtain ⟨m3, m4⟩ := hin2'
  go_enter Tryd.func87, Tryd.ntmps87
  go_wp2_with (fail)
  all_goals
    go_returns
    exact ⟨rfl, (by repeat' (first | with_reducible exact Bel.refl _ | with_reducible assumption | with_reducible refine Bel.set ?_ ?_ _ | with_reducible refine Bel.alloc ?_ _ | with_reducible refine Bel.drew ?_ | with_reducible refine Bel.drewN ?_ _ | with_reducible refine Bel.trans ?_ (by with_reducible assumption) | (simp; done) | (simp; omega) | refine Bel.alloc ?_ _ | refine Bel.drew ?_ | refine Bel.drewN ?_ _ | refine Bel.set ?_ ?_ _))⟩

theorem inM_1 : InM 1 := by unfold InM; omega
theorem pw_step {a n : Int} {f : Nat} (h : mulOk n a = true) : pwF a (f + 1) n = pwF a f (n * a) := by rw [pwF, if_pos h]
theorem pw_stop {a n : Int} {f : Nat} (h : mulOk n a = false) : pwF a (f + 1) n = (0, 203) := by rw [pwF, h]; rfl
set_option maxHeartbeats 2000000 in
theorem specPower_any (a b : Int) (w : World) (ha : InM a) (hb : InM b) :
    Calls Tryd.prog 106 #[.int .i64 a, .int .i64 b] w fun e w' => e = .returned (.tuple #[.int .i64 (powR a b).1, .int .i64 (powR a b).2]) ∧ Bel w w' := by
  have hb' := hb
  unfold InM at hb'
  by_cases c1 : a = 1
  · subst c1
    have hF := hide (show powR 1 b = (1, 0) by simp [powR])
    by_cases d1 : b < 0
    all_goals
      go_enter Tryd.func106, Tryd.ntmps106
      go_wp2_with (fail)
      all_goals
        go_returns
        rw [hF.out]
        exact ⟨rfl, (by repeat' (first | with_reducible exact Bel.refl _ | with_reducible assumption | with_reducible refine Bel.set ?_ ?_ _ | with_reducible refine Bel.alloc ?_ _ | with_reducible refine Bel.drew ?_ | with_reducible refine Bel.drewN ?_ _ | with_reducible refine Bel.trans ?_ (by with_reducible assumption) | (simp; done) | (simp; omega) | refine Bel.alloc ?_ _ | refine Bel.drew ?_ | refine Bel.drewN ?_ _ | refine Bel.set ?_ ?_ _))⟩
  by_cases c2 : a = -1
  · subst c2
    by_cases d2 : b.tmod 2 = 0
    · have hF := hide (show powR (-1) b = (1, 0) by simp [powR, d2])
      have d4 : 0 ≤ b → b % 2 = 0 := fun h => by rw [← Int.tmod_eq_emod_of_nonneg h]; exact d2
      by_cases d1 : b < 0
      all_goals
        go_enter Tryd.func106, Tryd.ntmps106
        go_wp2_with (fail)
        all_goals
          go_returns
          rw [hF.out]
          exact ⟨rfl, (by repeat' (first | with_reducible exact Bel.refl _ | with_reducible assumption | with_reducible refine Bel.set ?_ ?_ _ | with_reducible refine Bel.alloc ?_ _ | with_reducible refine Bel.drew ?_ | with_reducible refine Bel.drewN ?_ _ | with_reducible refine Bel.trans ?_ (by with_reducible assumption) | (simp; done) | (simp; omega) | refine Bel.alloc ?_ _ | refine Bel.drew ?_ | refine Bel.drewN ?_ _ | refine Bel.set ?_ ?_ _))⟩
    · have hF := hide (show powR (-1) b = (-1, 0) by simp [powR, d2])
      have d3 : (b.tmod 2 == 0) = false := by simp [d2]
      have d4 : 0 ≤ b → (b % 2 == 0) = false := fun h => by rw [Int.tmod_eq_emod_of_nonneg h] at d2; simp [d2]
      have d5 : 0 ≤ b → ¬ b % 2 = 0 := fun h => by rw [Int.tmod_eq_emod_of_nonneg h] at d2; exact d2
      by_cases d1 : b < 0
      all_goals
        go_enter Tryd.func106, Tryd.ntmps106
        go_wp2_with (fail)
        all_goals
          go_returns
          rw [hF.out]
          exact ⟨rfl, (by repeat' (first | with_reducible exact Bel.refl _ | with_reducible assumption | with_reducible refine Bel.set ?_ ?_ _ | with_reducible refine Bel.alloc ?_ _ | with_reducible refine Bel.drew ?_ | with_reducible refine Bel.drewN ?_ _ | with_reducible refine Bel.trans ?_ (by with_reducible assumption) | (simp; done) | (simp; omega) | refine Bel.alloc ?_ _ | refine Bel.drew ?_ | refine Bel.drewN ?_ _ | refine Bel.set ?_ ?_ _))⟩
  have e1 : (a != 1) = true := by simp [c1]
  have e2 : (a != -1) = true := by simp [c2]
  have e3 : (a == 1) = false := by simp [c1]
  have e4 : (a == -1) = false := by simp [c2]
  by_cases c0 : a = 0
  · subst c0
    by_cases d1 : b < 0
    · have hF := hide (show powR 0 b = (0, 201) by simp [powR, d1])
      go_enter Tryd.func106, Tryd.ntmps106
      go_wp2_with (fail)
      all_goals
        go_returns
        rw [hF.out]
        exact ⟨rfl, (by repeat' (first | with_reducible exact Bel.refl _ | with_reducible assumption | with_reducible refine Bel.set ?_ ?_ _ | with_reducible refine Bel.alloc ?_ _ | with_reducible refine Bel.drew ?_ | with_reducible refine Bel.drewN ?_ _ | with_reducible refine Bel.trans ?_ (by with_reducible assumption) | (simp; done) | (simp; omega) | refine Bel.alloc ?_ _ | refine Bel.drew ?_ | refine Bel.drewN ?_ _ | refine Bel.set ?_ ?_ _))⟩
    · by_cases d2 : 0 < b
      · have hF := hide (show powR 0 b = (0, 0) by simp [powR, d1, d2])
        go_enter Tryd.func106, Tryd.ntmps106
        go_wp2_with (fail)
        all_goals
          go_returns
          rw [hF.out]
          exact ⟨rfl, (by repeat' (first | with_reducible exact Bel.refl _ | with_reducible assumption | with_reducible refine Bel.set ?_ ?_ _ | with_reducible refine Bel.alloc ?_ _ | with_reducible refine Bel.drew ?_ | with_reducible refine Bel.drewN ?_ _ | with_reducible refine Bel.trans ?_ (by with_reducible assumption) | (simp; done) | (simp; omega) | refine Bel.alloc ?_ _ | refine Bel.drew ?_ | refine Bel.drewN ?_ _ | refine Bel.set ?_ ?_ _))⟩
      · obtain rfl : b = 0 := by omega
        have hF := hide (show powR 0 0 = (1, 0) by simp [powR, pwF])
        go_enter Tryd.func106, Tryd.ntmps106
        go_wp2_with (fail)
        go_loopw [6, 7] (fun n i wr => n = .int .i64 1 ∧ i = .int .i64 0 ∧ Bel w wr) (fun _ _ _ => 0)
        case atStart => exact ⟨rfl, rfl, (by repeat' (first | with_reducible exact Bel.refl _ | with_reducible assumption | with_reducible refine Bel.set ?_ ?_ _ | with_reducible refine Bel.alloc ?_ _ | with_reducible refine Bel.drew ?_ | with_reducible refine Bel.drewN ?_ _ | with_reducible refine Bel.trans ?_ (by with_reducible assumption) | (simp; done) | (simp; omega) | refine Bel.alloc ?_ _ | refine Bel.drew ?_ | refine Bel.drewN ?_ _ | refine Bel.set ?_ ?_ _))⟩
        case round =>
          obtain ⟨rfl, rfl, hbw⟩ := hrel
          go_wp2_with (fail)
          all_goals
            go_returns
            rw [hF.out]
            exact ⟨rfl, (by repeat' (first | with_reducible exact Bel.refl _ | with_reducible assumption | with_reducible refine Bel.set ?_ ?_ _ | with_reducible refine Bel.alloc ?_ _ | with_reducible refine Bel.drew ?_ | with_reducible refine Bel.drewN ?_ _ | with_reducible refine Bel.trans ?_ (by with_reducible assumption) | (simp; done) | (simp; omega) | refine Bel.alloc ?_ _ | refine Bel.drew ?_ | refine Bel.drewN ?_ _ | refine Bel.set ?_ ?_ _))⟩
  have e5 : (a == 0) = false := by simp [c0]
  by_cases d1 : b < 0
  · have hF := hide (show powR a b = (0, 0) by simp [powR, c0, c1, c2, d1])
    clear c0 c1 c2
    go_enter Tryd.func106, Tryd.ntmps106
    go_wp2_with (fail)
    all_goals
      go_returns
      rw [hF.out]
      exact ⟨rfl, (by repeat' (first | with_reducible exact Bel.refl _ | with_reducible assumption | with_reducible refine Bel.set ?_ ?_ _ | with_reducible refine Bel.alloc ?_ _ | with_reducible refine Bel.drew ?_ | with_reducible refine Bel.drewN ?_ _ | with_reducible refine Bel.trans ?_ (by with_reducible assumption) | (simp; done) | (simp; omega) | refine Bel.alloc ?_ _ | refine Bel.drew ?_ | refine Bel.drewN ?_ _ | refine Bel.set ?_ ?_ _))⟩
  · have hF := hide (show powR a b = pwF a b.toNat 1 by simp [powR, c0, c1, c2, d1])
    clear c0 c1 c2
    go_enter Tryd.func106, Tryd.ntmps106
    go_wp2_with (fail)
    go_loopw [6, 7] (fun nv iv wr => ∃ (k : Nat) (n : Int), nv = .int .i64 n ∧ iv = .int .i64 k ∧ (k : Int) ≤ b ∧ InM n ∧ Hid (pwF a (b.toNat - k) n = pwF a b.toNat 1) ∧ Bel w wr) (fun _ iv _ => b.toNat - (intOf iv).toNat)
    case atStart => exact ⟨0, 1, rfl, rfl, by omega, inM_1, by exact hide rfl, (by repeat' (first | with_reducible exact Bel.refl _ | with_reducible assumption | with_reducible refine Bel.set ?_ ?_ _ | with_reducible refine Bel.alloc ?_ _ | with_reducible refine Bel.drew ?_ | with_reducible refine Bel.drewN ?_ _ | with_reducible refine Bel.trans ?_ (by with_reducible assumption) | (simp; done) | (simp; omega) | refine Bel.alloc ?_ _ | refine Bel.drew ?_ | refine Bel.drewN ?_ _ | refine Bel.set ?_ ?_ _))⟩
    case round =>
      obtain ⟨k, n, rfl, rfl, k1, hn, hp, hbw⟩ := hrel
      by_cases q : (k : Int) < b
      · have hk : b.toNat - k = (b.toNat - (k + 1)) + 1 := by omega
        have HC := hide (fun w => specCompute_22 n a w hn ha)
        cases hm : mulOk n a
        · have hV := hide (show mulC n a = 203 by simp [mulC, hm])
          have hG := hide (show powR a b = (0, 203) by rw [hF.out, ← hp.out, hk, pw_stop hm])
          clear hm hk
          go_wp2_with ((go_at_call 87; refine (HC.out _).mono ?_; rintro e w1 ⟨rfl, hb1⟩; have hz1 := hb1.size; (try simp only [World.size_alloc, World.size_setCell, World.size_drew] at hz1); (try simp only [VVal.val])); rw [hV.out])
          all_goals
            go_returns
            rw [hG.out]
            exact ⟨rfl, (by repeat' (first | with_reducible exact Bel.refl _ | with_reducible assumption | with_reducible refine Bel.set ?_ ?_ _ | with_reducible refine Bel.alloc ?_ _ | with_reducible refine Bel.drew ?_ | with_reducible refine Bel.drewN ?_ _ | with_reducible refine Bel.trans ?_ (by with_reducible assumption) | (simp; done) | (simp; omega) | refine Bel.alloc ?_ _ | refine Bel.drew ?_ | refine Bel.drewN ?_ _ | refine Bel.set ?_ ?_ _))⟩
        · have hV := hide (show mulC n a = 0 by simp [mulC, hm])
          have hV2 := hide (show mulV n a = n * a by simp [mulV, hm])
          have hG := hide (show pwF a (b.toNat - (k + 1)) (n * a) = pwF a b.toNat 1 by rw [← hp.out, hk, pw_step hm])
          have hin := mul_in hm
          clear hm hk
          go_wp2_with ((go_at_call 87; refine (HC.out _).mono ?_; rintro e w1 ⟨rfl, hb1⟩; have hz1 := hb1.size; (try simp only [World.size_alloc, World.size_setCell, World.size_drew] at hz1); (try simp only [VVal.val])); rw [hV.out, hV2.out])
          exact ⟨⟨k + 1, n * a, rfl, rfl, by omega, hin, hG, (by repeat' (first | with_reducible exact Bel.refl _ | with_reducible assumption | with_reducible refine Bel.set ?_ ?_ _ | with_reducible refine Bel.alloc ?_ _ | with_reducible refine Bel.drew ?_ | with_reducible refine Bel.drewN ?_ _ | with_reducible refine Bel.trans ?_ (by with_reducible assumption) | (simp; done) | (simp; omega) | refine Bel.alloc ?_ _ | refine Bel.drew ?_ | refine Bel.drewN ?_ _ | refine Bel.set ?_ ?_ _))⟩, by simp only [intOf]; omega⟩
      · have hG := hide (show powR a b = (n, 0) by rw [hF.out, ← hp.out, show b.toNat - k = 0 by omega, pwF])
        go_wp2_with (fail)
        all_goals
          go_returns
          rw [hG.out]
          exact ⟨rfl, (by repeat' (first | with_reducible exact Bel.refl _ | with_reducible assumption | with_reducible refine Bel.set ?_ ?_ _ | with_reducible refine Bel.alloc ?_ _ | with_reducible refine Bel.drew ?_ | with_reducible refine Bel.drewN ?_ _ | with_reducible refine Bel.trans ?_ (by with_reducible assumption) | (simp; done) | (simp; omega) | refine Bel.alloc ?_ _ | refine Bel.drew ?_ | refine Bel.drewN ?_ _ | refine Bel.set ?_ ?_ _))⟩

end Go.Proofs.YtmikipcfepgogaaDoor
