/- UptoFrom: the first place of a byte of the set. -/
import Derived.Test.YtficlopcolglnaaA3
namespace Go.Proofs.Ytficlopcolglnaa
set_option linter.unusedVariables false
set_option linter.unusedSimpArgs false
set_option maxRecDepth 100000
open Go.RowKit

def uptoF (lo hi : Int) (s : ByteArray) : Nat → Nat → Option Nat
  | 0, _ => none
  | f + 1, k => if hasB lo hi (byteAt s (k - 1)) then some k else uptoF lo hi s f (k + 1)
def uptoR (lo hi : Int) (s : ByteArray) (n : Int) : Option Nat := uptoF lo hi s (s.size + 1 - n.toNat) n.toNat
def uptoOk (lo hi : Int) (s : ByteArray) (n : Int) : Bool := goodPl s n && (uptoR lo hi s n).isSome
def uptoN (lo hi : Int) (s : ByteArray) (n : Int) : Int := if goodPl s n then ((uptoR lo hi s n).getD 0 : Nat) else 0
theorem uptoR_out (lo hi : Int) (s : ByteArray) (n : Int) (h : ¬ n ≤ s.size) : uptoR lo hi s n = none := by
  have e : s.size + 1 - n.toNat = 0 := by omega
  unfold uptoR
  rw [e, uptoF]
theorem uptoR_yes (lo hi : Int) (s : ByteArray) (n : Int) (h1 : 1 ≤ n) (h : n ≤ s.size) (hb : hasB lo hi (byteAt s (n.toNat - 1)) = true) : uptoR lo hi s n = some n.toNat := by
  have e : s.size + 1 - n.toNat = (s.size - n.toNat) + 1 := by omega
  unfold uptoR
  rw [e, uptoF, if_pos hb]
theorem uptoR_no (lo hi : Int) (s : ByteArray) (n : Int) (h1 : 1 ≤ n) (h : n ≤ s.size) (hb : hasB lo hi (byteAt s (n.toNat - 1)) = false) : uptoR lo hi s (n + 1) = uptoR lo hi s n := by
  have e : s.size + 1 - n.toNat = (s.size + 1 - (n + 1).toNat) + 1 := by omega
  have e2 : (n + 1).toNat = n.toNat + 1 := by omega
  unfold uptoR
  rw [e, uptoF, hb, e2]
  simp
theorem upto_hit (lo hi : Int) (s : ByteArray) (n m : Int) (hg : goodPl s n = true) (h1 : 1 ≤ m) (hm : uptoR lo hi s m = uptoR lo hi s n) (h : m ≤ s.size) (hb : hasB lo hi (byteAt s (m.toNat - 1)) = true) : uptoOk lo hi s n = true ∧ uptoN lo hi s n = m := by
  rw [uptoR_yes lo hi s m h1 h hb] at hm
  constructor
  · simp [uptoOk, hg, ← hm]
  · simp [uptoN, hg, ← hm]
    omega
theorem upto_miss (lo hi : Int) (s : ByteArray) (n m : Int) (hg : goodPl s n = true) (hm : uptoR lo hi s m = uptoR lo hi s n) (h : ¬ m ≤ s.size) : uptoOk lo hi s n = false ∧ uptoN lo hi s n = 0 := by
  rw [uptoR_out lo hi s m h] at hm
  constructor
  · simp [uptoOk, ← hm]
  · simp [uptoN, hg, ← hm]

set_option maxHeartbeats 1000000 in
theorem implUptoFrom_any (lo hi : Int) (s : ByteArray) (n : Int) (w : World) (hs : s.size ≤ maxLen) :
    Calls Try.prog 35 #[.agg #[.int .i64 lo, .int .i64 hi], .string s, .int .i64 n] w fun e w' => e = .returned (.tuple #[.int .i64 (uptoN lo hi s n), .bool (uptoOk lo hi s n)]) ∧ Bel w w' := by
  have hs' := hs
  unfold maxLen at hs
  have hx := goodPl_iff s n
  cases hg : goodPl s n
  all_goals
    rw [hg] at hx
    simp only [true_iff, false_iff, reduceCtorEq] at hx
  · have HL : Hid (goodPl s n = false) := hg
    have hr1 : uptoOk lo hi s n = false := by simp [uptoOk, hg]
    have hr2 : uptoN lo hi s n = 0 := by simp [uptoN, hg]
    rw [hr1, hr2]
    clear hg hr1 hr2
    go_enter Try.func35, Try.ntmps35
    go_wp2_with ((go_at_call 46; refine (goodPlace_any _ _ _ hs').mono ?_; rintro e w' ⟨rfl, rfl⟩); rw [HL.out])
    go_returns
    exact ⟨rfl, (by repeat' (first | exact Bel.refl _ | with_reducible assumption | refine Bel.trans ?_ (by with_reducible assumption) | refine Bel.alloc ?_ _ | refine Bel.drew ?_ | refine Bel.drewN ?_ _ | refine Bel.set ?_ ?_ _ | (simp; done) | (simp; omega)))⟩
  · obtain ⟨g1, g2, g3⟩ := hx
    have HL : Hid (goodPl s n = true) := hg
    clear hg
    go_enter Try.func35, Try.ntmps35
    go_wp2_with ((go_at_call 46; refine (goodPlace_any _ _ _ hs').mono ?_; rintro e w' ⟨rfl, rfl⟩); rw [HL.out])
    go_loopw [2] (fun v wr => ∃ m : Int, v = .int .i64 m ∧ 1 ≤ m ∧ m ≤ s.size + 1 ∧ Hid (uptoR lo hi s m = uptoR lo hi s n) ∧ Bel w wr ∧ w.heap.size < wr.heap.size ∧ wr.cell? ⟨w.heap.size, 0, none⟩ = some (.int .i64 lo) ∧ wr.cell? ⟨w.heap.size, 1, none⟩ = some (.int .i64 hi)) (fun v _ => s.size + 1 - (intOf v).toNat)
    case atStart => exact ⟨n, rfl, g2, g3, rfl, (by repeat' (first | exact Bel.refl _ | with_reducible assumption | refine Bel.trans ?_ (by with_reducible assumption) | refine Bel.alloc ?_ _ | refine Bel.drew ?_ | refine Bel.drewN ?_ _ | refine Bel.set ?_ ?_ _ | (simp; done) | (simp; omega))), by simp, by simp, by simp⟩
    case round =>
      obtain ⟨m, rfl, m1, m2, hm, hbw, hsz, hc0, hc1⟩ := hrel
      by_cases h1 : m ≤ s.size
      · have hd : decide (m ≤ (s.size : Int)) = true := by simp [h1]
        have i1 : 0 ≤ m - 1 := by omega
        have i2 : m - 1 < (s.size : Int) := by omega
        have i3 : IntKind.i64.wrap (m - 1) = m - 1 := by rw [IntKind.wrap_i64]; omega
        have hB := hide (byteAt_eq s (m.toNat - 1) (by omega))
        go_wp2_with (fail)
        refine wp_region_still_tail 5 (by kernel_rfl) (by kernel_rfl) ?_
        simp only [List.take_succ_cons, List.take_zero, List.drop_succ_cons, List.drop_zero]
        change wpStill _ _ (World.drew wr) _ _ _
        repeat still_step
        refine wpStill_nil ?_
        change wpList _ _ _ _ _ (World.drew wr)
        have hbd : Bel w (World.drew wr) := hbw.drew
        have hsz2 : w.heap.size < (World.drew wr).heap.size := hsz
        have hc02 : (World.drew wr).cell? ⟨w.heap.size, 0, none⟩ = some (.int .i64 lo) := hc0
        have hc12 : (World.drew wr).cell? ⟨w.heap.size, 1, none⟩ = some (.int .i64 hi) := hc1
        generalize World.drew wr = w2 at hbd hsz2 hc02 hc12 ⊢
        cases hb : hasB lo hi (byteAt s (m.toNat - 1))
        · have HB := hide hb
          clear hb
          go_wp2_with (go_at_call 49; rw [hB.out]; refine (implHasByte_any lo hi _ _ (byteAt_lt _ _)).mono ?_; rintro e w3 ⟨rfl, hb3⟩; rw [HB.out]; have hk0 := (hb3.box _ hsz2 0).trans hc02; have hk1 := (hb3.box _ hsz2 1).trans hc12; have hsz3 := Nat.lt_of_lt_of_le hsz2 hb3.size)
          exact ⟨⟨m + 1, rfl, by omega, by omega, (uptoR_no lo hi s m m1 h1 HB.out).trans hm.out, (by repeat' (first | exact Bel.refl _ | with_reducible assumption | refine Bel.trans ?_ (by with_reducible assumption) | refine Bel.alloc ?_ _ | refine Bel.drew ?_ | refine Bel.drewN ?_ _ | refine Bel.set ?_ ?_ _ | (simp; done) | (simp; omega))), hsz3, hk0, hk1⟩, by simp [intOf]; omega⟩
        · have HB := hide hb
          clear hb
          go_wp2_with (go_at_call 49; rw [hB.out]; refine (implHasByte_any lo hi _ _ (byteAt_lt _ _)).mono ?_; rintro e w3 ⟨rfl, hb3⟩; rw [HB.out]; have hk0 := (hb3.box _ hsz2 0).trans hc02; have hk1 := (hb3.box _ hsz2 1).trans hc12; have hsz3 := Nat.lt_of_lt_of_le hsz2 hb3.size)
          go_returns
          refine ⟨?_, (by repeat' (first | exact Bel.refl _ | with_reducible assumption | refine Bel.trans ?_ (by with_reducible assumption) | refine Bel.alloc ?_ _ | refine Bel.drew ?_ | refine Bel.drewN ?_ _ | refine Bel.set ?_ ?_ _ | (simp; done) | (simp; omega)))⟩
          simp only [Array.getD_eq_getD_getElem?, List.getElem?_toArray, List.getElem?_cons_succ, List.getElem?_cons_zero, Option.getD_some]
          obtain ⟨q1, q2⟩ := upto_hit lo hi s n m HL.out m1 hm.out h1 HB.out
          rw [q1, q2]
      · have hd : decide (m ≤ (s.size : Int)) = false := by simp; omega
        go_wp2
        go_returns
        refine ⟨?_, (by repeat' (first | exact Bel.refl _ | with_reducible assumption | refine Bel.trans ?_ (by with_reducible assumption) | refine Bel.alloc ?_ _ | refine Bel.drew ?_ | refine Bel.drewN ?_ _ | refine Bel.set ?_ ?_ _ | (simp; done) | (simp; omega)))⟩
        simp only [Array.getD_eq_getD_getElem?, List.getElem?_toArray, List.getElem?_cons_succ, List.getElem?_cons_zero, Option.getD_some]
        obtain ⟨q1, q2⟩ := upto_miss lo hi s n m HL.out hm.out (by omega)
        rw [q1, q2]
set_option maxHeartbeats 1000000 in
theorem specUptoFrom_any (lo hi : Int) (s : ByteArray) (n : Int) (w : World) (hs : s.size ≤ maxLen) :
    Calls Try.prog 34 #[.agg #[.int .i64 lo, .int .i64 hi], .string s, .int .i64 n] w fun e w' => e = .returned (.tuple #[.int .i64 (uptoN lo hi s n), .bool (uptoOk lo hi s n)]) ∧ Bel w w' := by
  have hs' := hs
  unfold maxLen at hs
  have hx := goodPl_iff s n
  have HA := hide (fun m w => specAnyAt_any lo hi s m w hs')
  cases hg : goodPl s n
  all_goals
    rw [hg] at hx
    simp only [true_iff, false_iff, reduceCtorEq] at hx
  · have HL : Hid (goodPl s n = false) := hg
    have hr1 : uptoOk lo hi s n = false := by simp [uptoOk, hg]
    have hr2 : uptoN lo hi s n = 0 := by simp [uptoN, hg]
    rw [hr1, hr2]
    clear hg hr1 hr2
    go_enter Try.func34, Try.ntmps34
    go_wp2
    refine wp_loop_rounds 1 ?_
    rw [rounds_succ]
    go_wp2_with ((go_at_call 45; refine (l17At_any _ _ _ hs').mono ?_; rintro e w' ⟨rfl, rfl⟩); rw [HL.out])
    go_returns
    exact ⟨rfl, (by repeat' (first | exact Bel.refl _ | with_reducible assumption | refine Bel.trans ?_ (by with_reducible assumption) | refine Bel.alloc ?_ _ | refine Bel.drew ?_ | refine Bel.drewN ?_ _ | refine Bel.set ?_ ?_ _ | (simp; done) | (simp; omega)))⟩
  · obtain ⟨g1, g2, g3⟩ := hx
    have HL : Hid (goodPl s n = true) := hg
    clear hg
    go_enter Try.func34, Try.ntmps34
    go_wp2
    go_loopw [2] (fun v wr => ∃ m : Int, v = .int .i64 m ∧ 1 ≤ m ∧ m ≤ s.size + 2 ∧ Hid (uptoR lo hi s m = uptoR lo hi s n) ∧ Bel w wr ∧ w.heap.size < wr.heap.size ∧ wr.cell? ⟨w.heap.size, 0, none⟩ = some (.int .i64 lo) ∧ wr.cell? ⟨w.heap.size, 1, none⟩ = some (.int .i64 hi)) (fun v _ => s.size + 2 - (intOf v).toNat)
    case atStart => exact ⟨n, rfl, g2, by omega, rfl, (by repeat' (first | exact Bel.refl _ | with_reducible assumption | refine Bel.trans ?_ (by with_reducible assumption) | refine Bel.alloc ?_ _ | refine Bel.drew ?_ | refine Bel.drewN ?_ _ | refine Bel.set ?_ ?_ _ | (simp; done) | (simp; omega))), by simp, by simp, by simp⟩
    case round =>
      obtain ⟨m, rfl, m1, m2, hm, hbw, hsz, hc0, hc1⟩ := hrel
      by_cases h2 : m ≤ s.size + 1
      · have HM : Hid (goodPl s m = true) := (goodPl_iff s m).2 ⟨g1, m1, h2⟩
        cases ha : anyAt lo hi s m
        · have HAm := hide ha
          clear ha
          go_wp2_with (first
            | ((go_at_call 45; refine (l17At_any _ _ _ hs').mono ?_; rintro e w' ⟨rfl, rfl⟩); rw [HM.out])
            | (go_at_call 22; refine (HA.out _ _).mono ?_; rintro e w3 ⟨rfl, hb3⟩; rw [HAm.out]; have hk0 := (hb3.box _ hsz 0).trans hc0; have hk1 := (hb3.box _ hsz 1).trans hc1; have hsz3 := Nat.lt_of_lt_of_le hsz hb3.size))
          refine ⟨⟨m + 1, rfl, by omega, by omega, ?_, (by repeat' (first | exact Bel.refl _ | with_reducible assumption | refine Bel.trans ?_ (by with_reducible assumption) | refine Bel.alloc ?_ _ | refine Bel.drew ?_ | refine Bel.drewN ?_ _ | refine Bel.set ?_ ?_ _ | (simp; done) | (simp; omega))), hsz3, hk0, hk1⟩, by simp [intOf]; omega⟩
          by_cases h1 : m ≤ s.size
          · exact (uptoR_no lo hi s m m1 h1 (by have := HAm.out; simpa [anyAt, HM.out, h1] using this)).trans hm.out
          · exact ((uptoR_out lo hi s (m + 1) (by omega)).trans (uptoR_out lo hi s m h1).symm).trans hm.out
        · have HAm := hide ha
          have ha' := ha
          simp only [anyAt, Bool.and_eq_true, decide_eq_true_eq] at ha'
          have HH := hide (upto_hit lo hi s n m HL.out m1 hm.out ha'.1.2 ha'.2)
          clear ha ha'
          go_wp2_with (first
            | ((go_at_call 45; refine (l17At_any _ _ _ hs').mono ?_; rintro e w' ⟨rfl, rfl⟩); rw [HM.out])
            | (go_at_call 22; refine (HA.out _ _).mono ?_; rintro e w3 ⟨rfl, hb3⟩; rw [HAm.out]))
          go_returns
          refine ⟨?_, (by repeat' (first | exact Bel.refl _ | with_reducible assumption | refine Bel.trans ?_ (by with_reducible assumption) | refine Bel.alloc ?_ _ | refine Bel.drew ?_ | refine Bel.drewN ?_ _ | refine Bel.set ?_ ?_ _ | (simp; done) | (simp; omega)))⟩
          simp only [Array.getD_eq_getD_getElem?, List.getElem?_toArray, List.getElem?_cons_succ, List.getElem?_cons_zero, Option.getD_some]
          rw [HH.out.1, HH.out.2]
      · have HM : Hid (goodPl s m = false) := by
          have : ¬ goodPl s m = true := fun h => h2 ((goodPl_iff s m).1 h).2.2
          exact hide (by simpa using this)
        go_wp2_with ((go_at_call 45; refine (l17At_any _ _ _ hs').mono ?_; rintro e w' ⟨rfl, rfl⟩); rw [HM.out])
        go_returns
        refine ⟨?_, (by repeat' (first | exact Bel.refl _ | with_reducible assumption | refine Bel.trans ?_ (by with_reducible assumption) | refine Bel.alloc ?_ _ | refine Bel.drew ?_ | refine Bel.drewN ?_ _ | refine Bel.set ?_ ?_ _ | (simp; done) | (simp; omega)))⟩
        simp only [Array.getD_eq_getD_getElem?, List.getElem?_toArray, List.getElem?_cons_succ, List.getElem?_cons_zero, Option.getD_some]
        obtain ⟨q1, q2⟩ := upto_miss lo hi s n m HL.out hm.out (by omega)
        rw [q1, q2]
end Go.Proofs.Ytficlopcolglnaa
