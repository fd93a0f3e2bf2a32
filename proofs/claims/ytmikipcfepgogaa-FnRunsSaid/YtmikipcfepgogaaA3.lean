/- Character sets: a byte in a set; AnyAt, ManyAt, UptoFrom. -/
import Derived.Test.YtmikipcfepgogaaAh
import Derived.Test.YtmikipcfepgogaaA1
import Derived.Test.YtmikipcfepgogaaBits
import Derived.Test.YtmikipcfepgogaaQ
namespace Go.Proofs.Ytmikipcfepgogaa
set_option linter.unusedVariables false
set_option linter.unusedSimpArgs false
set_option maxRecDepth 100000
open Go.RowKit

set_option maxHeartbeats 400000 in
theorem specHasByte_any (lo hi : Int) (b : Nat) (w : World) (hb : b < 256) :
    Calls Try.prog 63 #[.agg #[.int .i64 lo, .int .i64 hi], .int .u8 b] w fun e w' => e = .returned (.bool (hasB lo hi b)) ∧ Bel w w' := by
  have B1 := hide (bit_and lo b)
  have B2 := hide (bit_and hi (b - 64))
  go_enter Try.func63, Try.ntmps63
  go_wp2
  all_goals
    go_returns
    go_light
    refine ⟨?_, (by repeat' (first | with_reducible exact Bel.refl _ | with_reducible assumption | with_reducible refine Bel.set ?_ ?_ _ | with_reducible refine Bel.alloc ?_ _ | with_reducible refine Bel.drew ?_ | with_reducible refine Bel.drewN ?_ _ | with_reducible refine Bel.trans ?_ (by with_reducible assumption) | (simp; done) | (simp; omega) | refine Bel.alloc ?_ _ | refine Bel.drew ?_ | refine Bel.drewN ?_ _ | refine Bel.set ?_ ?_ _))⟩
    have B1 := B1.out
    have B2 := B2.out
    simp only [Array.getD_eq_getD_getElem?, List.getElem?_toArray, List.getElem?_cons_succ, List.getElem?_cons_zero, Option.getD_some]
    unfold hasB
    grind
set_option maxHeartbeats 400000 in
theorem implHasByte_any (lo hi : Int) (b : Nat) (w : World) (hb : b < 256) :
    Calls Try.prog 50 #[.agg #[.int .i64 lo, .int .i64 hi], .int .u8 b] w fun e w' => e = .returned (.bool (hasB lo hi b)) ∧ Bel w w' := by
  have B1 := hide (bit_shift lo b)
  have B2 := hide (bit_shift hi (b - 64))
  go_enter Try.func50, Try.ntmps50
  go_wp2
  all_goals
    go_returns
    go_light
    refine ⟨?_, (by repeat' (first | with_reducible exact Bel.refl _ | with_reducible assumption | with_reducible refine Bel.set ?_ ?_ _ | with_reducible refine Bel.alloc ?_ _ | with_reducible refine Bel.drew ?_ | with_reducible refine Bel.drewN ?_ _ | with_reducible refine Bel.trans ?_ (by with_reducible assumption) | (simp; done) | (simp; omega) | refine Bel.alloc ?_ _ | refine Bel.drew ?_ | refine Bel.drewN ?_ _ | refine Bel.set ?_ ?_ _))⟩
    have B1 := B1.out
    have B2 := B2.out
    simp only [Array.getD_eq_getD_getElem?, List.getElem?_toArray, List.getElem?_cons_succ, List.getElem?_cons_zero, Option.getD_some]
    unfold hasB
    grind
/-- AnyAt: is there a byte of the set at that place? -/
def anyAt (lo hi : Int) (s : ByteArray) (n : Int) : Bool := goodPl s n && decide (n ≤ s.size) && hasB lo hi (byteAt s (n.toNat - 1))
def anyAtN (lo hi : Int) (s : ByteArray) (n : Int) : Int := if anyAt lo hi s n then n + 1 else 0
set_option maxHeartbeats 400000 in
theorem specAnyAt_any (lo hi : Int) (s : ByteArray) (n : Int) (w : World) (hs : s.size ≤ maxLen) :
    Calls Try.prog 62 #[.agg #[.int .i64 lo, .int .i64 hi], .string s, .int .i64 n] w fun e w' => e = .returned (.tuple #[.int .i64 (anyAtN lo hi s n), .bool (anyAt lo hi s n)]) ∧ Bel w w' := by
  have hs' := hs
  unfold maxLen at hs
  have hx := goodPl_iff s n
  cases hg : goodPl s n
  all_goals
    rw [hg] at hx
    simp only [true_iff, false_iff, reduceCtorEq] at hx
  · have HL : Hid (∀ w, Calls Try.prog 69 #[.string s, .int .i64 n] w fun e w' => e = .returned (.bool false) ∧ w = w') := fun w => by
      have := l17At_any s n w hs'
      rwa [hg] at this
    have hr1 : anyAt lo hi s n = false := by simp [anyAt, hg]
    have hr2 : anyAtN lo hi s n = 0 := by simp [anyAtN, hr1]
    rw [hr1, hr2]
    clear hg hr1 hr2
    go_enter Try.func62, Try.ntmps62
    go_wp2
    go_quiet ((go_at_call 69; exact quiet_left (HL.out _)))
    go_wp2
    go_returns
    exact ⟨rfl, (by repeat' (first | with_reducible exact Bel.refl _ | with_reducible assumption | with_reducible refine Bel.set ?_ ?_ _ | with_reducible refine Bel.alloc ?_ _ | with_reducible refine Bel.drew ?_ | with_reducible refine Bel.drewN ?_ _ | with_reducible refine Bel.trans ?_ (by with_reducible assumption) | (simp; done) | (simp; omega) | refine Bel.alloc ?_ _ | refine Bel.drew ?_ | refine Bel.drewN ?_ _ | refine Bel.set ?_ ?_ _))⟩
  · have HL : Hid (∀ w, Calls Try.prog 69 #[.string s, .int .i64 n] w fun e w' => e = .returned (.bool true) ∧ w = w') := fun w => by
      have := l17At_any s n w hs'
      rwa [hg] at this
    obtain ⟨g1, g2, g3⟩ := hx
    by_cases h1 : n ≤ s.size
    · have hd : decide ((s.size : Int) < n) = false := by simp; omega
      have i1 : 0 ≤ n - 1 := by omega
      have i2 : n - 1 < (s.size : Int) := by omega
      have i3 : IntKind.i64.wrap (n - 1) = n - 1 := by rw [IntKind.wrap_i64]; omega
      go_enter Try.func62, Try.ntmps62
      go_wp2
      (refine wp_region_still_tail 16 (by kernel_rfl) (by kernel_rfl) ?_; simp only [List.take_succ_cons, List.take_zero, List.drop_succ_cons, List.drop_zero]; change wpStill _ _ (World.drew (w.alloc (.cells #[.int .i64 lo, .int .i64 hi] 40))) _ _ _)
      repeat (first | still_step | still_call ((HL.out _).mono (fun _ _ h => ⟨h.1, h.2.symm⟩)))
      refine wpStill_nil ?_
      have hbd : Bel w (World.drew (w.alloc (.cells #[.int .i64 lo, .int .i64 hi] 40))) := (by repeat' (first | with_reducible exact Bel.refl _ | with_reducible assumption | with_reducible refine Bel.set ?_ ?_ _ | with_reducible refine Bel.alloc ?_ _ | with_reducible refine Bel.drew ?_ | with_reducible refine Bel.drewN ?_ _ | with_reducible refine Bel.trans ?_ (by with_reducible assumption) | (simp; done) | (simp; omega) | refine Bel.alloc ?_ _ | refine Bel.drew ?_ | refine Bel.drewN ?_ _ | refine Bel.set ?_ ?_ _))
      generalize World.drew (w.alloc (.cells #[.int .i64 lo, .int .i64 hi] 40)) = w2 at hbd ⊢
      have hB := hide (byteAt_eq s (n.toNat - 1) (by omega))
      have hr1 := hide (show anyAt lo hi s n = hasB lo hi (byteAt s (n.toNat - 1)) by simp [anyAt, hg, h1])
      clear hg
      go_wp2_with (go_at_call 63; rw [hB.out]; refine (specHasByte_any lo hi _ _ (byteAt_lt _ _)).mono ?_; rintro e w3 ⟨rfl, hb3⟩)
      all_goals
        go_returns
        go_light
        refine ⟨?_, (by repeat' (first | with_reducible exact Bel.refl _ | with_reducible assumption | with_reducible refine Bel.set ?_ ?_ _ | with_reducible refine Bel.alloc ?_ _ | with_reducible refine Bel.drew ?_ | with_reducible refine Bel.drewN ?_ _ | with_reducible refine Bel.trans ?_ (by with_reducible assumption) | (simp; done) | (simp; omega) | refine Bel.alloc ?_ _ | refine Bel.drew ?_ | refine Bel.drewN ?_ _ | refine Bel.set ?_ ?_ _))⟩
        simp only [Array.getD_eq_getD_getElem?, List.getElem?_toArray, List.getElem?_cons_succ, List.getElem?_cons_zero, Option.getD_some]
        unfold anyAtN
        rw [hr1.out]
        simp_all
    · have hd : decide ((s.size : Int) < n) = true := by simp; omega
      have hr1 : anyAt lo hi s n = false := by simp [anyAt, h1]
      have hr2 : anyAtN lo hi s n = 0 := by simp [anyAtN, hr1]
      rw [hr1, hr2]
      clear hg hr1 hr2
      go_enter Try.func62, Try.ntmps62
      go_wp2
      go_quiet ((go_at_call 69; exact quiet_left (HL.out _)))
      go_wp2
      go_returns
      exact ⟨rfl, (by repeat' (first | with_reducible exact Bel.refl _ | with_reducible assumption | with_reducible refine Bel.set ?_ ?_ _ | with_reducible refine Bel.alloc ?_ _ | with_reducible refine Bel.drew ?_ | with_reducible refine Bel.drewN ?_ _ | with_reducible refine Bel.trans ?_ (by with_reducible assumption) | (simp; done) | (simp; omega) | refine Bel.alloc ?_ _ | refine Bel.drew ?_ | refine Bel.drewN ?_ _ | refine Bel.set ?_ ?_ _))⟩
set_option maxHeartbeats 400000 in
theorem implAnyAt_any (lo hi : Int) (s : ByteArray) (n : Int) (w : World) (hs : s.size ≤ maxLen) :
    Calls Try.prog 28 #[.agg #[.int .i64 lo, .int .i64 hi], .string s, .int .i64 n] w fun e w' => e = .returned (.tuple #[.int .i64 (anyAtN lo hi s n), .bool (anyAt lo hi s n)]) ∧ Bel w w' := by
  have hs' := hs
  unfold maxLen at hs
  have hx := goodPl_iff s n
  cases hg : goodPl s n
  all_goals
    rw [hg] at hx
    simp only [true_iff, false_iff, reduceCtorEq] at hx
  · have HL : Hid (∀ w, Calls Try.prog 61 #[.string s, .int .i64 n] w fun e w' => e = .returned (.bool false) ∧ w = w') := fun w => by
      have := goodPlace_any s n w hs'
      rwa [hg] at this
    have hr1 : anyAt lo hi s n = false := by simp [anyAt, hg]
    have hr2 : anyAtN lo hi s n = 0 := by simp [anyAtN, hr1]
    rw [hr1, hr2]
    clear hg hr1 hr2
    go_enter Try.func28, Try.ntmps28
    go_wp2
    go_quiet ((go_at_call 61; exact quiet_left (HL.out _)))
    go_wp2
    go_returns
    exact ⟨rfl, (by repeat' (first | with_reducible exact Bel.refl _ | with_reducible assumption | with_reducible refine Bel.set ?_ ?_ _ | with_reducible refine Bel.alloc ?_ _ | with_reducible refine Bel.drew ?_ | with_reducible refine Bel.drewN ?_ _ | with_reducible refine Bel.trans ?_ (by with_reducible assumption) | (simp; done) | (simp; omega) | refine Bel.alloc ?_ _ | refine Bel.drew ?_ | refine Bel.drewN ?_ _ | refine Bel.set ?_ ?_ _))⟩
  · have HL : Hid (∀ w, Calls Try.prog 61 #[.string s, .int .i64 n] w fun e w' => e = .returned (.bool true) ∧ w = w') := fun w => by
      have := goodPlace_any s n w hs'
      rwa [hg] at this
    obtain ⟨g1, g2, g3⟩ := hx
    by_cases h1 : n ≤ s.size
    · have hd : decide ((s.size : Int) < n) = false := by simp; omega
      have i1 : 0 ≤ n - 1 := by omega
      have i2 : n - 1 < (s.size : Int) := by omega
      have i3 : IntKind.i64.wrap (n - 1) = n - 1 := by rw [IntKind.wrap_i64]; omega
      go_enter Try.func28, Try.ntmps28
      go_wp2
      (refine wp_region_still_tail 16 (by kernel_rfl) (by kernel_rfl) ?_; simp only [List.take_succ_cons, List.take_zero, List.drop_succ_cons, List.drop_zero]; change wpStill _ _ (World.drew (w.alloc (.cells #[.int .i64 lo, .int .i64 hi] 40))) _ _ _)
      repeat (first | still_step | still_call ((HL.out _).mono (fun _ _ h => ⟨h.1, h.2.symm⟩)))
      refine wpStill_nil ?_
      have hbd : Bel w (World.drew (w.alloc (.cells #[.int .i64 lo, .int .i64 hi] 40))) := (by repeat' (first | with_reducible exact Bel.refl _ | with_reducible assumption | with_reducible refine Bel.set ?_ ?_ _ | with_reducible refine Bel.alloc ?_ _ | with_reducible refine Bel.drew ?_ | with_reducible refine Bel.drewN ?_ _ | with_reducible refine Bel.trans ?_ (by with_reducible assumption) | (simp; done) | (simp; omega) | refine Bel.alloc ?_ _ | refine Bel.drew ?_ | refine Bel.drewN ?_ _ | refine Bel.set ?_ ?_ _))
      generalize World.drew (w.alloc (.cells #[.int .i64 lo, .int .i64 hi] 40)) = w2 at hbd ⊢
      have hB := hide (byteAt_eq s (n.toNat - 1) (by omega))
      have hr1 := hide (show anyAt lo hi s n = hasB lo hi (byteAt s (n.toNat - 1)) by simp [anyAt, hg, h1])
      clear hg
      go_wp2_with (go_at_call 50; rw [hB.out]; refine (implHasByte_any lo hi _ _ (byteAt_lt _ _)).mono ?_; rintro e w3 ⟨rfl, hb3⟩)
      all_goals
        go_returns
        go_light
        refine ⟨?_, (by repeat' (first | with_reducible exact Bel.refl _ | with_reducible assumption | with_reducible refine Bel.set ?_ ?_ _ | with_reducible refine Bel.alloc ?_ _ | with_reducible refine Bel.drew ?_ | with_reducible refine Bel.drewN ?_ _ | with_reducible refine Bel.trans ?_ (by with_reducible assumption) | (simp; done) | (simp; omega) | refine Bel.alloc ?_ _ | refine Bel.drew ?_ | refine Bel.drewN ?_ _ | refine Bel.set ?_ ?_ _))⟩
        simp only [Array.getD_eq_getD_getElem?, List.getElem?_toArray, List.getElem?_cons_succ, List.getElem?_cons_zero, Option.getD_some]
        unfold anyAtN
        rw [hr1.out]
        simp_all
    · have hd : decide ((s.size : Int) < n) = true := by simp; omega
      have hr1 : anyAt lo hi s n = false := by simp [anyAt, h1]
      have hr2 : anyAtN lo hi s n = 0 := by simp [anyAtN, hr1]
      rw [hr1, hr2]
      clear hg hr1 hr2
      go_enter Try.func28, Try.ntmps28
      go_wp2
      go_quiet ((go_at_call 61; exact quiet_left (HL.out _)))
      go_wp2
      go_returns
      exact ⟨rfl, (by repeat' (first | with_reducible exact Bel.refl _ | with_reducible assumption | with_reducible refine Bel.set ?_ ?_ _ | with_reducible refine Bel.alloc ?_ _ | with_reducible refine Bel.drew ?_ | with_reducible refine Bel.drewN ?_ _ | with_reducible refine Bel.trans ?_ (by with_reducible assumption) | (simp; done) | (simp; omega) | refine Bel.alloc ?_ _ | refine Bel.drew ?_ | refine Bel.drewN ?_ _ | refine Bel.set ?_ ?_ _))⟩
end Go.Proofs.Ytmikipcfepgogaa
