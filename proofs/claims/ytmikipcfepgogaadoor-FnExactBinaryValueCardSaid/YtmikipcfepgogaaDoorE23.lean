/- Two values compared as they are (=== and ~===), both sides. -/
import Derived.Test.YtmikipcfepgogaaDoorE16
namespace Go.Proofs.YtmikipcfepgogaaDoor
set_option linter.unusedVariables false
set_option linter.unusedSimpArgs false
set_option maxRecDepth 100000
open Go.RowKit

def idR (op : Int) (a b : VVal) : VVal × Int := if (a.eqB b) = decide (op = 46) then (b, 0) else (VVal.zero, -1)
set_option maxHeartbeats 1000000 in
theorem specId_46 (a b : VVal) (w : World) :
    Calls Tryd.prog 44 #[.int .i64 46, a.val, b.val] w fun e w' => e = .returned (.tuple #[(idR 46 a b).1.val, .int .i64 (idR 46 a b).2]) ∧ Bel w w' := by
  obtain ⟨k, n, i, t, lo, hi⟩ := a
  obtain ⟨k', n', i', t', lo', hi'⟩ := b
  have HR := hide (rfl : idR 46 ⟨k, n, i, t, lo, hi⟩ ⟨k', n', i', t', lo', hi'⟩ = idR 46 ⟨k, n, i, t, lo, hi⟩ ⟨k', n', i', t', lo', hi'⟩)
  generalize hR : idR 46 ⟨k, n, i, t, lo, hi⟩ ⟨k', n', i', t', lo', hi'⟩ = R
  replace hR := hide hR
  clear HR
  obtain ⟨⟨r0, r1, r2, r3, r4, r5⟩, rc⟩ := R
  simp only [VVal.val]
  go_enter Tryd.func44, Tryd.ntmps44
  go_wp2_with (fail)
  all_goals
    go_returns
    refine ⟨?_, (by repeat' (first | with_reducible exact Bel.refl _ | with_reducible assumption | with_reducible refine Bel.set ?_ ?_ _ | with_reducible refine Bel.alloc ?_ _ | with_reducible refine Bel.drew ?_ | with_reducible refine Bel.drewN ?_ _ | with_reducible refine Bel.trans ?_ (by with_reducible assumption) | (simp; done) | (simp; omega) | refine Bel.alloc ?_ _ | refine Bel.drew ?_ | refine Bel.drewN ?_ _ | refine Bel.set ?_ ?_ _))⟩
    have hR := hR.out
    simp only [idR, VVal.eqB] at hR
    simp_all [ba_eq, VVal.zero]
    try (obtain ⟨⟨rfl, rfl, rfl, rfl, rfl, rfl⟩, rfl⟩ := hR; exact ⟨rfl, rfl, rfl, rfl, rfl⟩)

set_option maxHeartbeats 1000000 in
theorem specId_47 (a b : VVal) (w : World) :
    Calls Tryd.prog 44 #[.int .i64 47, a.val, b.val] w fun e w' => e = .returned (.tuple #[(idR 47 a b).1.val, .int .i64 (idR 47 a b).2]) ∧ Bel w w' := by
  obtain ⟨k, n, i, t, lo, hi⟩ := a
  obtain ⟨k', n', i', t', lo', hi'⟩ := b
  have HR := hide (rfl : idR 47 ⟨k, n, i, t, lo, hi⟩ ⟨k', n', i', t', lo', hi'⟩ = idR 47 ⟨k, n, i, t, lo, hi⟩ ⟨k', n', i', t', lo', hi'⟩)
  generalize hR : idR 47 ⟨k, n, i, t, lo, hi⟩ ⟨k', n', i', t', lo', hi'⟩ = R
  replace hR := hide hR
  clear HR
  obtain ⟨⟨r0, r1, r2, r3, r4, r5⟩, rc⟩ := R
  simp only [VVal.val]
  go_enter Tryd.func44, Tryd.ntmps44
  go_wp2_with (fail)
  all_goals
    go_returns
    refine ⟨?_, (by repeat' (first | with_reducible exact Bel.refl _ | with_reducible assumption | with_reducible refine Bel.set ?_ ?_ _ | with_reducible refine Bel.alloc ?_ _ | with_reducible refine Bel.drew ?_ | with_reducible refine Bel.drewN ?_ _ | with_reducible refine Bel.trans ?_ (by with_reducible assumption) | (simp; done) | (simp; omega) | refine Bel.alloc ?_ _ | refine Bel.drew ?_ | refine Bel.drewN ?_ _ | refine Bel.set ?_ ?_ _))⟩
    have hR := hR.out
    simp only [idR, VVal.eqB] at hR
    simp_all [ba_eq, VVal.zero]
    try (obtain ⟨⟨rfl, rfl, rfl, rfl, rfl, rfl⟩, rfl⟩ := hR; exact ⟨rfl, rfl, rfl, rfl, rfl⟩)

set_option maxHeartbeats 1000000 in
theorem implId_46 (a b : VVal) (w : World) :
    Calls Tryd.prog 46 #[.int .i64 46, a.val, b.val] w fun e w' => e = .returned (.tuple #[(idR 46 a b).1.val, .int .i64 (idR 46 a b).2]) ∧ Bel w w' := by
  obtain ⟨k, n, i, t, lo, hi⟩ := a
  obtain ⟨k', n', i', t', lo', hi'⟩ := b
  have HR := hide (rfl : idR 46 ⟨k, n, i, t, lo, hi⟩ ⟨k', n', i', t', lo', hi'⟩ = idR 46 ⟨k, n, i, t, lo, hi⟩ ⟨k', n', i', t', lo', hi'⟩)
  generalize hR : idR 46 ⟨k, n, i, t, lo, hi⟩ ⟨k', n', i', t', lo', hi'⟩ = R
  replace hR := hide hR
  clear HR
  obtain ⟨⟨r0, r1, r2, r3, r4, r5⟩, rc⟩ := R
  simp only [VVal.val]
  go_enter Tryd.func46, Tryd.ntmps46
  go_wp2_with (fail)
  all_goals
    go_returns
    refine ⟨?_, (by repeat' (first | with_reducible exact Bel.refl _ | with_reducible assumption | with_reducible refine Bel.set ?_ ?_ _ | with_reducible refine Bel.alloc ?_ _ | with_reducible refine Bel.drew ?_ | with_reducible refine Bel.drewN ?_ _ | with_reducible refine Bel.trans ?_ (by with_reducible assumption) | (simp; done) | (simp; omega) | refine Bel.alloc ?_ _ | refine Bel.drew ?_ | refine Bel.drewN ?_ _ | refine Bel.set ?_ ?_ _))⟩
    have hR := hR.out
    simp only [idR, VVal.eqB] at hR
    simp_all [ba_eq, VVal.zero]
    try (obtain ⟨⟨rfl, rfl, rfl, rfl, rfl, rfl⟩, rfl⟩ := hR; exact ⟨rfl, rfl, rfl, rfl, rfl⟩)

set_option maxHeartbeats 1000000 in
theorem implId_47 (a b : VVal) (w : World) :
    Calls Tryd.prog 46 #[.int .i64 47, a.val, b.val] w fun e w' => e = .returned (.tuple #[(idR 47 a b).1.val, .int .i64 (idR 47 a b).2]) ∧ Bel w w' := by
  obtain ⟨k, n, i, t, lo, hi⟩ := a
  obtain ⟨k', n', i', t', lo', hi'⟩ := b
  have HR := hide (rfl : idR 47 ⟨k, n, i, t, lo, hi⟩ ⟨k', n', i', t', lo', hi'⟩ = idR 47 ⟨k, n, i, t, lo, hi⟩ ⟨k', n', i', t', lo', hi'⟩)
  generalize hR : idR 47 ⟨k, n, i, t, lo, hi⟩ ⟨k', n', i', t', lo', hi'⟩ = R
  replace hR := hide hR
  clear HR
  obtain ⟨⟨r0, r1, r2, r3, r4, r5⟩, rc⟩ := R
  simp only [VVal.val]
  go_enter Tryd.func46, Tryd.ntmps46
  go_wp2_with (fail)
  all_goals
    go_returns
    refine ⟨?_, (by repeat' (first | with_reducible exact Bel.refl _ | with_reducible assumption | with_reducible refine Bel.set ?_ ?_ _ | with_reducible refine Bel.alloc ?_ _ | with_reducible refine Bel.drew ?_ | with_reducible refine Bel.drewN ?_ _ | with_reducible refine Bel.trans ?_ (by with_reducible assumption) | (simp; done) | (simp; omega) | refine Bel.alloc ?_ _ | refine Bel.drew ?_ | refine Bel.drewN ?_ _ | refine Bel.set ?_ ?_ _))⟩
    have hR := hR.out
    simp only [idR, VVal.eqB] at hR
    simp_all [ba_eq, VVal.zero]
    try (obtain ⟨⟨rfl, rfl, rfl, rfl, rfl, rfl⟩, rfl⟩ := hR; exact ⟨rfl, rfl, rfl, rfl, rfl⟩)

end Go.Proofs.YtmikipcfepgogaaDoor
