/- ManyAt and UptoFrom: loops over a text. -/
import Derived.Test.YtmikipcfepgogaaA3
namespace Go.Proofs.Ytmikipcfepgogaa
set_option linter.unusedVariables false
set_option linter.unusedSimpArgs false
set_option maxRecDepth 100000
open Go.RowKit

/-- Where a run of bytes of the set ends. -/
def runEnd (lo hi : Int) (s : ByteArray) : Nat → Nat → Nat
  | 0, k => k
  | f + 1, k => if hasB lo hi (byteAt s (k - 1)) then runEnd lo hi s f (k + 1) else k
theorem runEnd_ge (lo hi : Int) (s : ByteArray) : ∀ (f k : Nat), k ≤ runEnd lo hi s f k ∧ runEnd lo hi s f k ≤ k + f
  | 0, k => by simp [runEnd]
  | f + 1, k => by
    unfold runEnd
    split
    · have := runEnd_ge lo hi s f (k + 1)
      omega
    · omega
theorem runEnd_yes (lo hi : Int) (s : ByteArray) (n : Int) (h1 : 1 ≤ n) (h2 : n ≤ s.size) (hb : hasB lo hi (byteAt s (n.toNat - 1)) = true) :
    runEnd lo hi s (s.size + 1 - n.toNat) n.toNat = runEnd lo hi s (s.size + 1 - (n + 1).toNat) (n + 1).toNat := by
  have e : s.size + 1 - n.toNat = (s.size + 1 - (n + 1).toNat) + 1 := by omega
  have e2 : (n + 1).toNat = n.toNat + 1 := by omega
  rw [e, runEnd, if_pos hb, e2]
theorem runEnd_no (lo hi : Int) (s : ByteArray) (n : Int) (h : ¬ n ≤ s.size ∨ hasB lo hi (byteAt s (n.toNat - 1)) = false) :
    runEnd lo hi s (s.size + 1 - n.toNat) n.toNat = n.toNat := by
  rcases h with h | h
  · have e : s.size + 1 - n.toNat = 0 := by omega
    rw [e, runEnd]
  · cases hf : s.size + 1 - n.toNat with
    | zero => rw [runEnd]
    | succ f => rw [runEnd, h]; rfl
def manyEnd (lo hi : Int) (s : ByteArray) (n : Int) : Int := (runEnd lo hi s (s.size + 1 - n.toNat) n.toNat : Nat)
def manyAtN (lo hi : Int) (s : ByteArray) (n : Int) : Int := if anyAt lo hi s n then manyEnd lo hi s n else 0
theorem manyEnd_step (lo hi : Int) (s : ByteArray) (n : Int) (h : anyAt lo hi s n = true) : manyEnd lo hi s n = manyEnd lo hi s (n + 1) ∧ 1 ≤ n ∧ n ≤ s.size ∧ n + 1 ≤ manyEnd lo hi s n := by
  simp only [anyAt, Bool.and_eq_true, decide_eq_true_eq, goodPl_iff] at h
  obtain ⟨⟨⟨_, h1, _⟩, h2⟩, hb⟩ := h
  have e := runEnd_yes lo hi s n h1 h2 hb
  have g := runEnd_ge lo hi s (s.size + 1 - (n + 1).toNat) (n + 1).toNat
  refine ⟨by unfold manyEnd; rw [e], h1, h2, ?_⟩
  unfold manyEnd
  rw [e]
  omega
theorem manyEnd_stay (lo hi : Int) (s : ByteArray) (n : Int) (hg : goodPl s n = true) (h : anyAt lo hi s n = false) : manyEnd lo hi s n = n := by
  have hg' := (goodPl_iff s n).1 hg
  unfold manyEnd
  rw [runEnd_no]
  · omega
  · by_cases h2 : n ≤ s.size
    · right; simpa [anyAt, hg, h2] using h
    · left; exact h2
theorem manyEnd_le (lo hi : Int) (s : ByteArray) (n : Int) (hg : goodPl s n = true) : manyEnd lo hi s n ≤ s.size + 1 := by
  have hg' := (goodPl_iff s n).1 hg
  have g := runEnd_ge lo hi s (s.size + 1 - n.toNat) n.toNat
  unfold manyEnd
  omega
theorem many_fin (lo hi : Int) (s : ByteArray) (n : Int) (hg : goodPl s n = true) (m : Int) (m1 : 1 ≤ m) (hm : manyEnd lo hi s m = manyEnd lo hi s n) (hs : ¬ m ≤ s.size ∨ hasB lo hi (byteAt s (m.toNat - 1)) = false) :
    ((m == n) = true ∧ anyAt lo hi s n = false ∧ manyAtN lo hi s n = 0) ∨ ((m == n) = false ∧ anyAt lo hi s n = true ∧ manyAtN lo hi s n = m) := by
  have e : manyEnd lo hi s m = m := by unfold manyEnd; rw [runEnd_no _ _ _ _ hs]; omega
  rw [e] at hm
  cases ha : anyAt lo hi s n
  · left
    have := manyEnd_stay lo hi s n hg ha
    refine ⟨by rw [beq_iff_eq]; omega, rfl, by simp [manyAtN, ha]⟩
  · right
    have := manyEnd_step lo hi s n ha
    refine ⟨by rw [beq_eq_false_iff_ne]; omega, rfl, by simp [manyAtN, ha, hm]⟩
theorem manyEnd_yes (lo hi : Int) (s : ByteArray) (m : Int) (m1 : 1 ≤ m) (h : m ≤ s.size) (hb : hasB lo hi (byteAt s (m.toNat - 1)) = true) : manyEnd lo hi s (m + 1) = manyEnd lo hi s m := by
  unfold manyEnd
  rw [runEnd_yes lo hi s m m1 h hb]

set_option maxHeartbeats 1000000 in
theorem implManyAt_any (lo hi : Int) (s : ByteArray) (n : Int) (w : World) (hs : s.size ≤ maxLen) :
    Calls Try.prog 27 #[.agg #[.int .i64 lo, .int .i64 hi], .string s, .int .i64 n] w fun e w' => e = .returned (.tuple #[.int .i64 (manyAtN lo hi s n), .bool (anyAt lo hi s n)]) ∧ Bel w w' := by
  have hs' := hs
  unfold maxLen at hs
  have hx := goodPl_iff s n
  cases hg : goodPl s n
  all_goals
    rw [hg] at hx
    simp only [true_iff, false_iff, reduceCtorEq] at hx
  · have HL : Hid (goodPl s n = false) := hg
    have hr1 : anyAt lo hi s n = false := by simp [anyAt, hg]
    have hr2 : manyAtN lo hi s n = 0 := by simp [manyAtN, hr1]
    rw [hr1, hr2]
    clear hg hr1 hr2
    go_enter Try.func27, Try.ntmps27
    go_wp2_with ((go_at_call 61; refine (goodPlace_any _ _ _ hs').mono ?_; rintro e w' ⟨rfl, rfl⟩); rw [HL.out])
    go_returns
    exact ⟨rfl, (by repeat' (first | with_reducible exact Bel.refl _ | with_reducible assumption | with_reducible refine Bel.set ?_ ?_ _ | with_reducible refine Bel.alloc ?_ _ | with_reducible refine Bel.drew ?_ | with_reducible refine Bel.drewN ?_ _ | with_reducible refine Bel.trans ?_ (by with_reducible assumption) | (simp; done) | (simp; omega) | refine Bel.alloc ?_ _ | refine Bel.drew ?_ | refine Bel.drewN ?_ _ | refine Bel.set ?_ ?_ _))⟩
  · obtain ⟨g1, g2, g3⟩ := hx
    have HL : Hid (goodPl s n = true) := hg
    have HF := hide (many_fin lo hi s n hg)
    clear hg
    go_enter Try.func27, Try.ntmps27
    go_wp2_with ((go_at_call 61; refine (goodPlace_any _ _ _ hs').mono ?_; rintro e w' ⟨rfl, rfl⟩); rw [HL.out])
    go_loopw [8] (fun v wr => ∃ m : Int, v = .int .i64 m ∧ 1 ≤ m ∧ m ≤ s.size + 1 ∧ Hid (manyEnd lo hi s m = manyEnd lo hi s n) ∧ Bel w wr ∧ w.heap.size < wr.heap.size ∧ wr.cell? ⟨w.heap.size, 0, none⟩ = some (.int .i64 lo) ∧ wr.cell? ⟨w.heap.size, 1, none⟩ = some (.int .i64 hi)) (fun v _ => s.size + 1 - (intOf v).toNat)
    case atStart => exact ⟨n, rfl, g2, g3, rfl, (by repeat' (first | with_reducible exact Bel.refl _ | with_reducible assumption | with_reducible refine Bel.set ?_ ?_ _ | with_reducible refine Bel.alloc ?_ _ | with_reducible refine Bel.drew ?_ | with_reducible refine Bel.drewN ?_ _ | with_reducible refine Bel.trans ?_ (by with_reducible assumption) | (simp; done) | (simp; omega) | refine Bel.alloc ?_ _ | refine Bel.drew ?_ | refine Bel.drewN ?_ _ | refine Bel.set ?_ ?_ _)), by simp, by simp, by simp⟩
    case round =>
      obtain ⟨m, rfl, m1, m2, hm, hbw, hsz, hc0, hc1⟩ := hrel
      by_cases h1 : m ≤ s.size
      · have hd : decide (m ≤ (s.size : Int)) = true := by simp [h1]
        have i1 : 0 ≤ m - 1 := by omega
        have i2 : m - 1 < (s.size : Int) := by omega
        have i3 : IntKind.i64.wrap (m - 1) = m - 1 := by rw [IntKind.wrap_i64]; omega
        have hB := hide (byteAt_eq s (m.toNat - 1) (by omega))
        go_wp2_with (fail)
        refine wp_region_still_tail 10 (by kernel_rfl) (by kernel_rfl) ?_
        simp only [List.take_succ_cons, List.take_zero, List.drop_succ_cons, List.drop_zero]
        change wpStill _ _ (World.drew wr) _ _ _
        repeat still_step
        refine wpStill_nil ?_
        change wpList _ _ _ _ _ (World.drew wr)
        have hbd : Bel w (World.drew wr) := hbw.drew
        have hsz2 : w.heap.size < (World.drew wr).heap.size := hsz
        have hc02 : (World.drew wr).cell? ⟨w.heap.size, 0, none⟩ = some (.int .i64 lo) := hc0
        have hc12 : (World.drew wr).cell? ⟨w.heap.size, 1, none⟩ = some (.int .i64 hi) := hc1
        generalize World.drew wr = w2 at hbd hsz2 hc02 hc12 ⊢
        cases hb : hasB lo hi (byteAt s (m.toNat - 1))
        · have HB := hide hb
          clear hb
          rcases HF.out m m1 hm.out (.inr HB.out) with ⟨q1, q2, q3⟩ | ⟨q1, q2, q3⟩
          all_goals
            have Q2 := hide q2
            have Q3 := hide q3
            clear q2 q3
            go_wp2_with (go_at_call 50; rw [hB.out]; refine (implHasByte_any lo hi _ _ (byteAt_lt _ _)).mono ?_; rintro e w3 ⟨rfl, hb3⟩; rw [HB.out]; have hk0 := (hb3.box _ hsz2 0).trans hc02; have hk1 := (hb3.box _ hsz2 1).trans hc12; have hsz3 := Nat.lt_of_lt_of_le hsz2 hb3.size)
            go_returns
            refine ⟨?_, (by repeat' (first | with_reducible exact Bel.refl _ | with_reducible assumption | with_reducible refine Bel.set ?_ ?_ _ | with_reducible refine Bel.alloc ?_ _ | with_reducible refine Bel.drew ?_ | with_reducible refine Bel.drewN ?_ _ | with_reducible refine Bel.trans ?_ (by with_reducible assumption) | (simp; done) | (simp; omega) | refine Bel.alloc ?_ _ | refine Bel.drew ?_ | refine Bel.drewN ?_ _ | refine Bel.set ?_ ?_ _))⟩
            simp only [Array.getD_eq_getD_getElem?, List.getElem?_toArray, List.getElem?_cons_succ, List.getElem?_cons_zero, Option.getD_some]
            rw [Q2.out, Q3.out]
        · have HB := hide hb
          clear hb
          go_wp2_with (go_at_call 50; rw [hB.out]; refine (implHasByte_any lo hi _ _ (byteAt_lt _ _)).mono ?_; rintro e w3 ⟨rfl, hb3⟩; rw [HB.out]; have hk0 := (hb3.box _ hsz2 0).trans hc02; have hk1 := (hb3.box _ hsz2 1).trans hc12; have hsz3 := Nat.lt_of_lt_of_le hsz2 hb3.size)
          exact ⟨⟨m + 1, rfl, by omega, by omega, (manyEnd_yes lo hi s m m1 h1 HB.out).trans hm.out, (by repeat' (first | with_reducible exact Bel.refl _ | with_reducible assumption | with_reducible refine Bel.set ?_ ?_ _ | with_reducible refine Bel.alloc ?_ _ | with_reducible refine Bel.drew ?_ | with_reducible refine Bel.drewN ?_ _ | with_reducible refine Bel.trans ?_ (by with_reducible assumption) | (simp; done) | (simp; omega) | refine Bel.alloc ?_ _ | refine Bel.drew ?_ | refine Bel.drewN ?_ _ | refine Bel.set ?_ ?_ _)), hsz3, hk0, hk1⟩, by simp [intOf]; omega⟩
      · have hd : decide (m ≤ (s.size : Int)) = false := by simp; omega
        rcases HF.out m m1 hm.out (.inl (by omega)) with ⟨q1, q2, q3⟩ | ⟨q1, q2, q3⟩
        all_goals
          have Q2 := hide q2
          have Q3 := hide q3
          clear q2 q3
          go_wp2_with (fail)
          go_quiet (fail)
          go_wp2
          go_returns
          refine ⟨?_, (by repeat' (first | with_reducible exact Bel.refl _ | with_reducible assumption | with_reducible refine Bel.set ?_ ?_ _ | with_reducible refine Bel.alloc ?_ _ | with_reducible refine Bel.drew ?_ | with_reducible refine Bel.drewN ?_ _ | with_reducible refine Bel.trans ?_ (by with_reducible assumption) | (simp; done) | (simp; omega) | refine Bel.alloc ?_ _ | refine Bel.drew ?_ | refine Bel.drewN ?_ _ | refine Bel.set ?_ ?_ _))⟩
          simp only [Array.getD_eq_getD_getElem?, List.getElem?_toArray, List.getElem?_cons_succ, List.getElem?_cons_zero, Option.getD_some]
          rw [Q2.out, Q3.out]
set_option maxHeartbeats 1000000 in
theorem specManyAt_any (lo hi : Int) (s : ByteArray) (n : Int) (w : World) (hs : s.size ≤ maxLen) :
    Calls Try.prog 29 #[.agg #[.int .i64 lo, .int .i64 hi], .string s, .int .i64 n] w fun e w' => e = .returned (.tuple #[.int .i64 (manyAtN lo hi s n), .bool (anyAt lo hi s n)]) ∧ Bel w w' := by
  have hs' := hs
  unfold maxLen at hs
  have HC : Hid (∀ w, Calls Try.prog 62 #[.agg #[.int .i64 lo, .int .i64 hi], .string s, .int .i64 n] w fun e w' => e = .returned (.tuple #[.int .i64 (anyAtN lo hi s n), .bool (anyAt lo hi s n)]) ∧ Bel w w') := fun w => specAnyAt_any lo hi s n w hs'
  cases ha : anyAt lo hi s n
  · have hr2 : manyAtN lo hi s n = 0 := by simp [manyAtN, ha]
    rw [hr2]
    clear hr2
    have HA := hide ha
    clear ha
    go_enter Try.func29, Try.ntmps29
    go_wp2_with (go_at_call 62; refine (HC.out _).mono ?_; rintro e w1 ⟨rfl, hb1⟩; rw [HA.out])
    go_returns
    exact ⟨rfl, (by repeat' (first | with_reducible exact Bel.refl _ | with_reducible assumption | with_reducible refine Bel.set ?_ ?_ _ | with_reducible refine Bel.alloc ?_ _ | with_reducible refine Bel.drew ?_ | with_reducible refine Bel.drewN ?_ _ | with_reducible refine Bel.trans ?_ (by with_reducible assumption) | (simp; done) | (simp; omega) | refine Bel.alloc ?_ _ | refine Bel.drew ?_ | refine Bel.drewN ?_ _ | refine Bel.set ?_ ?_ _))⟩
  · have hN : anyAtN lo hi s n = n + 1 := by simp [anyAtN, ha]
    have hg : goodPl s n = true := by
      simp only [anyAt, Bool.and_eq_true] at ha
      exact ha.1.1
    obtain ⟨g1, g2, g3⟩ := (goodPl_iff s n).1 hg
    obtain ⟨hst, _, hn2, _⟩ := manyEnd_step lo hi s n ha
    have hr2 : manyAtN lo hi s n = manyEnd lo hi s n := by simp [manyAtN, ha]
    have HF := hide (many_fin lo hi s n hg)
    have HST := hide hst
    have HA := hide ha
    have HN := hide hN
    have HR := hide hr2
    clear ha hst hN hr2 hg
    go_enter Try.func29, Try.ntmps29
    go_wp2_with (go_at_call 62; refine (HC.out _).mono ?_; rintro e w1 ⟨rfl, hb1⟩; rw [HA.out, HN.out]; have hz1 := hb1.size; (try simp only [World.size_alloc] at hz1); have hk0 := hb1.box w.heap.size (by simp) 0; have hk1 := hb1.box w.heap.size (by simp) 1)
    go_loopw [8] (fun v wr => ∃ m : Int, v = .int .i64 m ∧ 1 ≤ m ∧ m ≤ s.size + 1 ∧ Hid (manyEnd lo hi s m = manyEnd lo hi s n) ∧ Bel w wr ∧ w.heap.size < wr.heap.size ∧ wr.cell? ⟨w.heap.size, 0, none⟩ = some (.int .i64 lo) ∧ wr.cell? ⟨w.heap.size, 1, none⟩ = some (.int .i64 hi)) (fun v _ => s.size + 1 - (intOf v).toNat)
    case atStart => exact ⟨n + 1, rfl, by omega, by omega, HST.out.symm, (by repeat' (first | with_reducible exact Bel.refl _ | with_reducible assumption | with_reducible refine Bel.set ?_ ?_ _ | with_reducible refine Bel.alloc ?_ _ | with_reducible refine Bel.drew ?_ | with_reducible refine Bel.drewN ?_ _ | with_reducible refine Bel.trans ?_ (by with_reducible assumption) | (simp; done) | (simp; omega) | refine Bel.alloc ?_ _ | refine Bel.drew ?_ | refine Bel.drewN ?_ _ | refine Bel.set ?_ ?_ _)), by omega, hk0.trans (by simp), hk1.trans (by simp)⟩
    case round =>
      obtain ⟨m, rfl, m1, m2, hm, hbw, hsz, hc0, hc1⟩ := hrel
      clear hk0 hk1
      by_cases h1 : m ≤ s.size
      · have hd : decide (m ≤ (s.size : Int)) = true := by simp [h1]
        have i1 : 0 ≤ m - 1 := by omega
        have i2 : m - 1 < (s.size : Int) := by omega
        have i3 : IntKind.i64.wrap (m - 1) = m - 1 := by rw [IntKind.wrap_i64]; omega
        have hB := hide (byteAt_eq s (m.toNat - 1) (by omega))
        go_wp2_with (fail)
        refine wp_region_still_tail 10 (by kernel_rfl) (by kernel_rfl) ?_
        simp only [List.take_succ_cons, List.take_zero, List.drop_succ_cons, List.drop_zero]
        change wpStill _ _ (World.drew wr) _ _ _
        repeat still_step
        refine wpStill_nil ?_
        change wpList _ _ _ _ _ (World.drew wr)
        have hbd : Bel w (World.drew wr) := hbw.drew
        have hsz2 : w.heap.size < (World.drew wr).heap.size := hsz
        have hc02 : (World.drew wr).cell? ⟨w.heap.size, 0, none⟩ = some (.int .i64 lo) := hc0
        have hc12 : (World.drew wr).cell? ⟨w.heap.size, 1, none⟩ = some (.int .i64 hi) := hc1
        generalize World.drew wr = w2 at hbd hsz2 hc02 hc12 ⊢
        cases hb : hasB lo hi (byteAt s (m.toNat - 1))
        · have HB := hide hb
          clear hb
          rcases HF.out m m1 hm.out (.inr HB.out) with ⟨q1, q2, q3⟩ | ⟨q1, q2, q3⟩
          · exact absurd (q2.symm.trans HA.out) (by simp)
          have Q3 := hide q3
          clear q2 q3 q1
          go_wp2_with (go_at_call 63; rw [hB.out]; refine (specHasByte_any lo hi _ _ (byteAt_lt _ _)).mono ?_; rintro e w3 ⟨rfl, hb3⟩; rw [HB.out]; have hk0 := (hb3.box _ hsz2 0).trans hc02; have hk1 := (hb3.box _ hsz2 1).trans hc12; have hsz3 := Nat.lt_of_lt_of_le hsz2 hb3.size)
          go_returns
          refine ⟨?_, (by repeat' (first | with_reducible exact Bel.refl _ | with_reducible assumption | with_reducible refine Bel.set ?_ ?_ _ | with_reducible refine Bel.alloc ?_ _ | with_reducible refine Bel.drew ?_ | with_reducible refine Bel.drewN ?_ _ | with_reducible refine Bel.trans ?_ (by with_reducible assumption) | (simp; done) | (simp; omega) | refine Bel.alloc ?_ _ | refine Bel.drew ?_ | refine Bel.drewN ?_ _ | refine Bel.set ?_ ?_ _))⟩
          simp only [Array.getD_eq_getD_getElem?, List.getElem?_toArray, List.getElem?_cons_succ, List.getElem?_cons_zero, Option.getD_some]
          rw [Q3.out]
        · have HB := hide hb
          clear hb
          go_wp2_with (go_at_call 63; rw [hB.out]; refine (specHasByte_any lo hi _ _ (byteAt_lt _ _)).mono ?_; rintro e w3 ⟨rfl, hb3⟩; rw [HB.out]; have hk0 := (hb3.box _ hsz2 0).trans hc02; have hk1 := (hb3.box _ hsz2 1).trans hc12; have hsz3 := Nat.lt_of_lt_of_le hsz2 hb3.size)
          exact ⟨⟨m + 1, rfl, by omega, by omega, (manyEnd_yes lo hi s m m1 h1 HB.out).trans hm.out, (by repeat' (first | with_reducible exact Bel.refl _ | with_reducible assumption | with_reducible refine Bel.set ?_ ?_ _ | with_reducible refine Bel.alloc ?_ _ | with_reducible refine Bel.drew ?_ | with_reducible refine Bel.drewN ?_ _ | with_reducible refine Bel.trans ?_ (by with_reducible assumption) | (simp; done) | (simp; omega) | refine Bel.alloc ?_ _ | refine Bel.drew ?_ | refine Bel.drewN ?_ _ | refine Bel.set ?_ ?_ _)), hsz3, hk0, hk1⟩, by simp [intOf]; omega⟩
      · have hd : decide (m ≤ (s.size : Int)) = false := by simp; omega
        rcases HF.out m m1 hm.out (.inl (by omega)) with ⟨q1, q2, q3⟩ | ⟨q1, q2, q3⟩
        · exact absurd (q2.symm.trans HA.out) (by simp)
        have Q3 := hide q3
        clear q2 q3 q1
        go_wp2_with (fail)
        go_quiet (fail)
        go_wp2
        go_returns
        refine ⟨?_, (by repeat' (first | with_reducible exact Bel.refl _ | with_reducible assumption | with_reducible refine Bel.set ?_ ?_ _ | with_reducible refine Bel.alloc ?_ _ | with_reducible refine Bel.drew ?_ | with_reducible refine Bel.drewN ?_ _ | with_reducible refine Bel.trans ?_ (by with_reducible assumption) | (simp; done) | (simp; omega) | refine Bel.alloc ?_ _ | refine Bel.drew ?_ | refine Bel.drewN ?_ _ | refine Bel.set ?_ ?_ _))⟩
        simp only [Array.getD_eq_getD_getElem?, List.getElem?_toArray, List.getElem?_cons_succ, List.getElem?_cons_zero, Option.getD_some]
        rw [Q3.out]
end Go.Proofs.Ytmikipcfepgogaa
