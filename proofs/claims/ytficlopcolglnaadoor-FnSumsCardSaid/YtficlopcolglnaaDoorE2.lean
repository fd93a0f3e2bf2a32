/- FunctionName, FunctionNumber: both sides. -/
import Derived.Test.YtficlopcolglnaaDoorE1
namespace Go.Proofs.YtficlopcolglnaaDoor
set_option linter.unusedVariables false
set_option linter.unusedSimpArgs false
set_option maxRecDepth 100000
open Go.RowKit

theorem Sp.on {w w' : World} (h : Sp w) (hb : Bel w w') : Sp w' := Joins.tab_stays (g := 0) (by kernel_rfl) h hb (Nat.le_refl _)

def funName (n : Int) : ByteArray := if 0 ≤ n ∧ n < 55 then funL.getD n.toNat ByteArray.empty else ByteArray.empty

theorem Strs.bel {l : List ByteArray} {w w' : World} {e : Ending} (h : Strs l w w' e) : Bel w w' := by
  rw [h.2]; exact Bel.alloc (Bel.refl w) _

set_option maxHeartbeats 400000 in
theorem specFunctionName_any (n : Int) (w : World) (hn : InI n) :
    Calls Tryd.prog 15 #[.int .i64 n] w fun e w' => e = .returned (.string (funName n)) ∧ Bel w w' := by
  unfold InI at hn
  have hL : funL.length = 55 := by decide +kernel
  rcases (by omega : (n < 0 ∨ 55 ≤ n) ∨ (0 ≤ n ∧ n < 55)) with h | ⟨h0, h⟩
  · have e0 : funName n = ByteArray.empty := by unfold funName; rw [if_neg (by omega)]
    rw [e0]
    go_enter Tryd.func15, Tryd.ntmps15
    go_wp2_with (go_at_call 44; refine (l9Functions_any _).mono ?_; rintro e w1 ⟨rfl, rfl⟩; rw [hL])
    all_goals
      go_returns
      exact ⟨rfl, (by repeat' (first | exact Bel.refl _ | with_reducible assumption | refine Bel.trans ?_ (by with_reducible assumption) | refine Bel.alloc ?_ _ | refine Bel.drew ?_ | refine Bel.drewN ?_ _ | refine Bel.set ?_ ?_ _ | (simp; done) | (simp; omega)))⟩
  · obtain ⟨k, rfl⟩ := Int.eq_ofNat_of_zero_le h0
    have hk : k < funL.length := by omega
    have e0 : funName k = funL[k] := by unfold funName; rw [if_pos (by omega)]; simp [List.getD, hk]
    rw [e0]
    have hc := strs_cell funL w k hk
    rw [show funL.getD k ByteArray.empty = funL[k] by simp [List.getD, hk]] at hc
    go_enter Tryd.func15, Tryd.ntmps15
    go_wp2_with (go_at_call 44; refine (l9Functions_any _).mono ?_; rintro e w1 ⟨rfl, rfl⟩; rw [hL])
    all_goals
      go_returns
      exact ⟨rfl, (by repeat' (first | exact Bel.refl _ | with_reducible assumption | refine Bel.trans ?_ (by with_reducible assumption) | refine Bel.alloc ?_ _ | refine Bel.drew ?_ | refine Bel.drewN ?_ _ | refine Bel.set ?_ ?_ _ | (simp; done) | (simp; omega)))⟩

set_option maxHeartbeats 400000 in
theorem implFunctionName_any (n : Int) (w : World) (hn : InI n) (ht : Sp w) :
    Calls Tryd.prog 16 #[.int .i64 n] w fun e w' => e = .returned (.string (funName n)) ∧ Bel w w' := by
  unfold InI at hn
  have hL : funL.length = 55 := by decide +kernel
  rcases (by omega : (n < 0 ∨ 55 ≤ n) ∨ (0 ≤ n ∧ n < 55)) with h | ⟨h0, h⟩
  · have e0 : funName n = ByteArray.empty := by unfold funName; rw [if_neg (by omega)]
    rw [e0]
    go_enter Tryd.func16, Tryd.ntmps16
    go_wp2_with (go_at_call 45; refine (functionNames_any _ ht).mono ?_; rintro e w1 ⟨rfl, rfl⟩; rw [hL])
    all_goals
      go_returns
      exact ⟨rfl, (by repeat' (first | exact Bel.refl _ | with_reducible assumption | refine Bel.trans ?_ (by with_reducible assumption) | refine Bel.alloc ?_ _ | refine Bel.drew ?_ | refine Bel.drewN ?_ _ | refine Bel.set ?_ ?_ _ | (simp; done) | (simp; omega)))⟩
  · obtain ⟨k, rfl⟩ := Int.eq_ofNat_of_zero_le h0
    have hk : k < funL.length := by omega
    have e0 : funName k = funL[k] := by unfold funName; rw [if_pos (by omega)]; simp [List.getD, hk]
    rw [e0]
    have hc := strs_cell funL w k hk
    rw [show funL.getD k ByteArray.empty = funL[k] by simp [List.getD, hk]] at hc
    go_enter Tryd.func16, Tryd.ntmps16
    go_wp2_with (go_at_call 45; refine (functionNames_any _ ht).mono ?_; rintro e w1 ⟨rfl, rfl⟩; rw [hL])
    all_goals
      go_returns
      exact ⟨rfl, (by repeat' (first | exact Bel.refl _ | with_reducible assumption | refine Bel.trans ?_ (by with_reducible assumption) | refine Bel.alloc ?_ _ | refine Bel.drew ?_ | refine Bel.drewN ?_ _ | refine Bel.set ?_ ?_ _ | (simp; done) | (simp; omega)))⟩


set_option maxHeartbeats 400000 in
theorem l9Find_any (l : List ByteArray) (b c : Nat) (x : ByteArray) (w : World) (hl : l.length < 1000000) (hc : ∀ j, j < l.length → w.cell? ⟨b, j, none⟩ = some (.string (l.getD j ByteArray.empty))) :
    Calls Tryd.prog 46 #[.slice (some ⟨b, 0, none⟩) l.length c, .string x] w fun e w' => e = .returned (.int .i64 (Lib.idxOfS l x)) ∧ w' = w := by
  go_enter Tryd.func46, Tryd.ntmps46
  go_wp2_with (fail)
  go_loopw [5] (fun v wr => ∃ m : Nat, v = .int .i64 m ∧ m ≤ l.length ∧ Hid (∀ j, j < m → l.getD j ByteArray.empty ≠ x) ∧ wr = w) (fun v _ => l.length - (intOf v).toNat)
  case atStart => exact ⟨0, rfl, by omega, fun j hj => by omega, rfl⟩
  case round =>
    obtain ⟨m, rfl, m1, hm, rfl⟩ := hrel
    by_cases h1 : m < l.length
    · have hd : decide ((m : Int) < (l.length : Int)) = true := by simp [h1]
      have hcm := hc m h1
      rw [show l.getD m ByteArray.empty = l[m] by simp [List.getD, h1]] at hcm
      have hw : IntKind.i64.wrap ((m : Int) + 1) = (m : Int) + 1 := by rw [IntKind.wrap_i64]; omega
      by_cases hx : l[m] = x
      · have hR : Lib.idxOfS l x = m := by
          have := Lib.idxFromS_hit x l m 0 h1 (by simp [List.getD, h1, hx]) hm.out
          simpa [Lib.idxOfS] using this
        go_wp2_with (fail)
        all_goals
          go_returns
          exact ⟨by rw [hR]; rfl, rfl⟩
      · have hd2 : (l[m].toList == x.toList) = false := by rw [beq_eq_false_iff_ne]; exact fun h => hx ((ba_eq _ _).1 h)
        go_wp2_with (fail)
        exact ⟨⟨m + 1, rfl, h1, fun j hj => by
          by_cases e : j = m
          · subst e; simpa [List.getD, h1] using hx
          · exact hm.out j (by omega), trivial⟩, by simp only [intOf]; omega⟩
    · have hd : decide ((m : Int) < (l.length : Int)) = false := by simp [h1]
      have hR : Lib.idxOfS l x = -1 := Lib.idxFromS_miss x l 0 fun j hj => hm.out j (by omega)
      go_wp2_with (fail)
      all_goals
        go_returns
        exact ⟨by rw [hR]; rfl, rfl⟩

def funNumber (x : ByteArray) : Int := Lib.idxOfS funL x

theorem specFunctionNumber_any (x : ByteArray) (w : World) :
    Calls Tryd.prog 17 #[.string x] w fun e w' => e = .returned (.int .i64 (funNumber x)) ∧ Bel w w' := by
  have hL : funL.length = 55 := by decide +kernel
  have hF := l9Find_any funL w.heap.size 55 x (w.alloc (.cells (funL.map Value.string).toArray 9)) (by omega) (fun j hj => strs_cell funL w j hj)
  rw [hL] at hF
  go_enter Tryd.func17, Tryd.ntmps17
  go_wp2_with (first
    | (go_at_call 44; refine (l9Functions_any _).mono ?_; rintro e w1 ⟨rfl, rfl⟩; rw [hL])
    | (go_at_call 46; refine hF.mono ?_; rintro e w1 ⟨rfl, rfl⟩))
  all_goals
    go_returns
    exact ⟨rfl, (by repeat' (first | exact Bel.refl _ | with_reducible assumption | refine Bel.trans ?_ (by with_reducible assumption) | refine Bel.alloc ?_ _ | refine Bel.drew ?_ | refine Bel.drewN ?_ _ | refine Bel.set ?_ ?_ _ | (simp; done) | (simp; omega)))⟩

theorem implFunctionNumber_any (x : ByteArray) (w : World) (ht : Sp w) :
    Calls Tryd.prog 18 #[.string x] w fun e w' => e = .returned (.int .i64 (funNumber x)) ∧ Bel w w' := by
  have hL : funL.length = 55 := by decide +kernel
  have hF := Tryd.slices_Index_string w.heap.size 0 55 55 funL x (w.alloc (.cells (funL.map Value.string).toArray 9)) (by omega) (by omega) (fun j hj => by simpa using strs_cell funL w j hj)
  rw [show funL.take 55 = funL by rw [← hL]; exact List.take_length] at hF
  go_enter Tryd.func18, Tryd.ntmps18
  go_wp2_with (first
    | (go_at_call 45; refine (functionNames_any _ ht).mono ?_; rintro e w1 ⟨rfl, rfl⟩; rw [hL])
    | (go_at_call 47; refine hF.mono ?_; rintro e w1 ⟨rfl, rfl⟩))
  all_goals
    go_returns
    exact ⟨rfl, (by repeat' (first | exact Bel.refl _ | with_reducible assumption | refine Bel.trans ?_ (by with_reducible assumption) | refine Bel.alloc ?_ _ | refine Bel.drew ?_ | refine Bel.drewN ?_ _ | refine Bel.set ?_ ?_ _ | (simp; done) | (simp; omega)))⟩

end Go.Proofs.YtficlopcolglnaaDoor
