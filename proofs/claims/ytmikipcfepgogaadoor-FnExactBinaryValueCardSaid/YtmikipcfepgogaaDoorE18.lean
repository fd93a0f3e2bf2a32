/- Arithmetic of the language: products, powers, sums, quotients: the reference's numbers and the program's. -/
import Derived.Test.YtmikipcfepgogaaDoorE17
import Derived.Test.YtmikipcfepgogaaDoorA4
namespace Go.Proofs.YtmikipcfepgogaaDoor
set_option linter.unusedVariables false
set_option linter.unusedSimpArgs false
set_option maxRecDepth 100000
open Go.RowKit

/-- A number of the language. -/
def InM (n : Int) : Prop := -999999999999 ≤ n ∧ n ≤ 999999999999
def mulOk (a b : Int) : Bool := decide (a.natAbs * b.natAbs ≤ 999999999999)
def mulV (a b : Int) : Int := if mulOk a b then a * b else 0
theorem natAbs_le {n : Int} (h : InM n) : n.natAbs ≤ 999999999999 := by unfold InM at h; omega
theorem mul_bd {a b : Int} (ha : InM a) (hb : InM b) : a.natAbs * b.natAbs ≤ 999999999998000000000001 := by
  have h1 := natAbs_le ha
  have h2 := natAbs_le hb
  calc a.natAbs * b.natAbs ≤ 999999999999 * 999999999999 := Nat.mul_le_mul h1 h2
    _ = 999999999998000000000001 := by decide
theorem mul_in {a b : Int} (h : mulOk a b = true) : InM (a * b) := by
  have h1 : a.natAbs * b.natAbs ≤ 999999999999 := by simpa [mulOk] using h
  rw [← Int.natAbs_mul] at h1
  unfold InM
  omega
theorem mul_wrap {a b : Int} (h : mulOk a b = true) : IntKind.i64.wrap (a * b) = a * b := by
  have := mul_in h
  unfold InM at this
  rw [IntKind.wrap_i64]
  omega
theorem mul_wrap' {a b : Int} (h : mulOk a b = true) : wrap64 (a * b) = a * b := by
  have := mul_in h
  unfold InM at this
  unfold wrap64
  omega

set_option maxHeartbeats 400000 in
theorem specAbs_any (n : Int) (w : World) (h : InM n) :
    Calls Tryd.prog 105 #[.int .i64 n] w fun e w' => e = .returned (.int .i64 (n.natAbs : Nat)) ∧ w = w' := by
  unfold InM at h
  by_cases hn : n < 0
  · have hF := hide (show ((n.natAbs : Nat) : Int) = -n by omega)
    go_enter Tryd.func105, Tryd.ntmps105
    go_wp2_with (fail)
    all_goals
      go_returns
      rw [hF.out]
      exact ⟨rfl, rfl⟩
  · have hF := hide (show ((n.natAbs : Nat) : Int) = n by omega)
    go_enter Tryd.func105, Tryd.ntmps105
    go_wp2_with (fail)
    all_goals
      go_returns
      rw [hF.out]
      exact ⟨rfl, rfl⟩
set_option maxHeartbeats 400000 in
theorem implAbs_any (n : Int) (w : World) (h : InM n) :
    Calls Tryd.prog 110 #[.int .i64 n] w fun e w' => e = .returned (.int .i64 (n.natAbs : Nat)) ∧ w = w' := by
  unfold InM at h
  by_cases hn : n < 0
  · have hF := hide (show ((n.natAbs : Nat) : Int) = -n by omega)
    go_enter Tryd.func110, Tryd.ntmps110
    go_wp2_with (fail)
    all_goals
      go_returns
      rw [hF.out]
      exact ⟨rfl, rfl⟩
  · have hF := hide (show ((n.natAbs : Nat) : Int) = n by omega)
    go_enter Tryd.func110, Tryd.ntmps110
    go_wp2_with (fail)
    all_goals
      go_returns
      rw [hF.out]
      exact ⟨rfl, rfl⟩

set_option maxHeartbeats 1000000 in
theorem product_any (a b : Int) (w : World) (ha : InM a) (hb : InM b) :
    Calls Tryd.prog 95 #[.int .i64 a, .int .i64 b] w fun e w' => e = .returned (.tuple #[.int .i64 (mulV a b), .bool (mulOk a b)]) ∧ Bel w w' := by
  have na := natAbs_le ha
  have nb := natAbs_le hb
  have bd := mul_bd ha hb
  have HA := hide (fun w => implAbs_any a w ha)
  have HB := hide (fun w => implAbs_any b w hb)
  obtain ⟨x, hx⟩ : ∃ x, a.natAbs = x := ⟨_, rfl⟩
  obtain ⟨y, hy⟩ : ∃ y, b.natAbs = y := ⟨_, rfl⟩
  have HM := hide (fun w => Tryd.bits_Mul64 x y (by omega) (by omega) w)
  rw [hx] at HA na bd
  rw [hy] at HB nb bd
  cases hm : mulOk a b
  · have hgt : 999999999999 < x * y := by
      have : ¬ a.natAbs * b.natAbs ≤ 999999999999 := by simpa [mulOk] using hm
      rw [hx, hy] at this
      omega
    have HM0 := hide hm
    have HV := hide (show mulV a b = 0 by simp [mulV, hm])
    have hx' := hide hx
    have hy' := hide hy
    clear hm hx hy
    by_cases hh : x * y < 18446744073709551616
    · have h1 := hide (show ((x * y / 18446744073709551616 : Nat) : Int) = 0 by rw [Nat.div_eq_of_lt hh]; rfl)
      have h2 := hide (show x * y % 18446744073709551616 = x * y from Nat.mod_eq_of_lt hh)
      obtain ⟨p, hp⟩ : ∃ p, x * y = p := ⟨_, rfl⟩
      have h3 : 999999999999 < (p : Int) := by omega
      have hp' := hide hp
      clear hp hgt hh bd
      go_enter Tryd.func95, Tryd.ntmps95
      go_wp2_with (first
        | (go_at_call 110; refine (HA.out _).mono ?_; rintro e w1 ⟨rfl, rfl⟩)
        | (go_at_call 110; refine (HB.out _).mono ?_; rintro e w1 ⟨rfl, rfl⟩)
        | (go_at_call 109; refine (HM.out _).mono ?_; rintro e w1 ⟨rfl, rfl⟩; rw [h1.out, h2.out, hp'.out]))
      all_goals
        go_returns
        rw [HV.out]
        exact ⟨rfl, (by repeat' (first | with_reducible exact Bel.refl _ | with_reducible assumption | with_reducible refine Bel.set ?_ ?_ _ | with_reducible refine Bel.alloc ?_ _ | with_reducible refine Bel.drew ?_ | with_reducible refine Bel.drewN ?_ _ | with_reducible refine Bel.trans ?_ (by with_reducible assumption) | (simp; done) | (simp; omega) | refine Bel.alloc ?_ _ | refine Bel.drew ?_ | refine Bel.drewN ?_ _ | refine Bel.set ?_ ?_ _))⟩
    · have h1 : 1 ≤ x * y / 18446744073709551616 := by omega
      obtain ⟨q, hq⟩ : ∃ q, x * y / 18446744073709551616 = q := ⟨_, rfl⟩
      obtain ⟨r, hr⟩ : ∃ r, x * y % 18446744073709551616 = r := ⟨_, rfl⟩
      rw [hq] at h1
      have h3 : ((q : Int) == 0) = false := by simp; omega
      have h4 : ((q : Int) != 0) = true := by simp; omega
      have hq' := hide hq
      have hr' := hide hr
      clear hq hr hgt hh bd
      go_enter Tryd.func95, Tryd.ntmps95
      go_wp2_with (first
        | (go_at_call 110; refine (HA.out _).mono ?_; rintro e w1 ⟨rfl, rfl⟩)
        | (go_at_call 110; refine (HB.out _).mono ?_; rintro e w1 ⟨rfl, rfl⟩)
        | (go_at_call 109; refine (HM.out _).mono ?_; rintro e w1 ⟨rfl, rfl⟩; rw [hq'.out, hr'.out]))
      all_goals
        go_returns
        rw [HV.out]
        exact ⟨rfl, (by repeat' (first | with_reducible exact Bel.refl _ | with_reducible assumption | with_reducible refine Bel.set ?_ ?_ _ | with_reducible refine Bel.alloc ?_ _ | with_reducible refine Bel.drew ?_ | with_reducible refine Bel.drewN ?_ _ | with_reducible refine Bel.trans ?_ (by with_reducible assumption) | (simp; done) | (simp; omega) | refine Bel.alloc ?_ _ | refine Bel.drew ?_ | refine Bel.drewN ?_ _ | refine Bel.set ?_ ?_ _))⟩
  · have hle : x * y ≤ 999999999999 := by
      have : a.natAbs * b.natAbs ≤ 999999999999 := by simpa [mulOk] using hm
      rw [hx, hy] at this
      exact this
    have hW := hide (mul_wrap hm)
    have hW2 := hide (mul_wrap' hm)
    have HM0 := hide hm
    have HV := hide (show mulV a b = a * b by simp [mulV, hm])
    have hx' := hide hx
    have hy' := hide hy
    clear hm hx hy
    have h1 := hide (show ((x * y / 18446744073709551616 : Nat) : Int) = 0 by rw [Nat.div_eq_of_lt (by omega)]; rfl)
    have h2 := hide (show x * y % 18446744073709551616 = x * y from Nat.mod_eq_of_lt (by omega))
    obtain ⟨p, hp⟩ : ∃ p, x * y = p := ⟨_, rfl⟩
    have h3 : (p : Int) ≤ 999999999999 := by omega
    have hp' := hide hp
    clear hp hle bd
    go_enter Tryd.func95, Tryd.ntmps95
    go_wp2_with (first
      | (go_at_call 110; refine (HA.out _).mono ?_; rintro e w1 ⟨rfl, rfl⟩)
      | (go_at_call 110; refine (HB.out _).mono ?_; rintro e w1 ⟨rfl, rfl⟩)
      | (go_at_call 109; refine (HM.out _).mono ?_; rintro e w1 ⟨rfl, rfl⟩; rw [h1.out, h2.out, hp'.out]))
    all_goals
      go_returns
      rw [HV.out]
      refine ⟨?_, (by repeat' (first | with_reducible exact Bel.refl _ | with_reducible assumption | with_reducible refine Bel.set ?_ ?_ _ | with_reducible refine Bel.alloc ?_ _ | with_reducible refine Bel.drew ?_ | with_reducible refine Bel.drewN ?_ _ | with_reducible refine Bel.trans ?_ (by with_reducible assumption) | (simp; done) | (simp; omega) | refine Bel.alloc ?_ _ | refine Bel.drew ?_ | refine Bel.drewN ?_ _ | refine Bel.set ?_ ?_ _))⟩
      simp only [Array.getD_eq_getD_getElem?, List.getElem?_toArray, List.getElem?_cons_succ, List.getElem?_cons_zero, Option.getD_some]
      (try simp only [hW2.out])

end Go.Proofs.YtmikipcfepgogaaDoor
