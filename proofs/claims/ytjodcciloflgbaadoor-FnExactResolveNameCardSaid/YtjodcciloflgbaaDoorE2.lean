/- FunctionName, FunctionNumber: both sides. -/
import Derived.Test.YtjodcciloflgbaaDoorE1
namespace Go.Proofs.YtjodcciloflgbaaDoor
set_option linter.unusedVariables false
set_option linter.unusedSimpArgs false
set_option maxRecDepth 100000
open Go.RowKit

theorem Sp.on {w w' : World} (h : Sp w) (hb : Bel w w') : Sp w' := Joins.tab_stays (g := 0) (by kernel_rfl) h hb (Nat.le_refl _)

def funName (n : Int) : ByteArray := if 0 ≤ n ∧ n < 55 then funL.getD n.toNat ByteArray.empty else ByteArray.empty

theorem Strs.bel {l : List ByteArray} {w w' : World} {e : Ending} (h : Strs l w w' e) : Bel w w' := by
  rw [h.2]; exact Bel.alloc (Bel.refl w) _

set_option maxHeartbeats 400000 in
theorem l9Find_any (l : List ByteArray) (b c : Nat) (x : ByteArray) (w : World) (hl : l.length < 1000000) (hc : ∀ j, j < l.length → w.cell? ⟨b, j, none⟩ = some (.string (l.getD j ByteArray.empty))) :
    Calls Tryd.prog 23 #[.slice (some ⟨b, 0, none⟩) l.length c, .string x] w fun e w' => e = .returned (.int .i64 (Lib.idxOfS l x)) ∧ w' = w := by
  go_enter Tryd.func23, Tryd.ntmps23
  go_wp2_with (fail)
  go_loopw [5] (fun v wr => ∃ m : Nat, v = .int .i64 m ∧ m ≤ l.length ∧ Hid (∀ j, j < m → l.getD j ByteArray.empty ≠ x) ∧ wr = w) (fun v _ => l.length - (intOf v).toNat)
  case atStart => exact ⟨0, rfl, by omega, fun j hj => by omega, rfl⟩
  case round =>
    obtain ⟨m, rfl, m1, hm, rfl⟩ := hrel
    by_cases h1 : m < l.length
    · have hd : decide ((m : Int) < (l.length : Int)) = true := by simp [h1]
      have hcm := hc m h1
      rw [show l.getD m ByteArray.empty = l[m] by simp [List.getD, h1]] at hcm
      have hw : IntKind.i64.wrap ((m : Int) + 1) = (m : Int) + 1 := by rw [IntKind.wrap_i64]; omega
      by_cases hx : l[m] = x
      · have hR : Lib.idxOfS l x = m := by
          have := Lib.idxFromS_hit x l m 0 h1 (by simp [List.getD, h1, hx]) hm.out
          simpa [Lib.idxOfS] using this
        go_wp2_with (fail)
        all_goals
          go_returns
          exact ⟨by rw [hR]; rfl, rfl⟩
      · have hd2 : (l[m].toList == x.toList) = false := by rw [beq_eq_false_iff_ne]; exact fun h => hx ((ba_eq _ _).1 h)
        go_wp2_with (fail)
        exact ⟨⟨m + 1, rfl, h1, fun j hj => by
          by_cases e : j = m
          · subst e; simpa [List.getD, h1] using hx
          · exact hm.out j (by omega), trivial⟩, by simp only [intOf]; omega⟩
    · have hd : decide ((m : Int) < (l.length : Int)) = false := by simp [h1]
      have hR : Lib.idxOfS l x = -1 := Lib.idxFromS_miss x l 0 fun j hj => hm.out j (by omega)
      go_wp2_with (fail)
      all_goals
        go_returns
        exact ⟨by rw [hR]; rfl, rfl⟩

def funNumber (x : ByteArray) : Int := Lib.idxOfS funL x

theorem implFunctionNumber_any (x : ByteArray) (w : World) (ht : Sp w) :
    Calls Tryd.prog 56 #[.string x] w fun e w' => e = .returned (.int .i64 (funNumber x)) ∧ Bel w w' := by
  have hL : funL.length = 55 := by decide +kernel
  have hF := Tryd.slices_Index_string w.heap.size 0 55 55 funL x (w.alloc (.cells (funL.map Value.string).toArray 9)) (by omega) (by omega) (fun j hj => by simpa using strs_cell funL w j hj)
  rw [show funL.take 55 = funL by rw [← hL]; exact List.take_length] at hF
  go_enter Tryd.func56, Tryd.ntmps56
  go_wp2_with (first
    | (go_at_call 76; refine (functionNames_any _ ht).mono ?_; rintro e w1 ⟨rfl, rfl⟩; rw [hL])
    | (go_at_call 29; refine hF.mono ?_; rintro e w1 ⟨rfl, rfl⟩))
  all_goals
    go_returns
    exact ⟨rfl, bl⟩

end Go.Proofs.YtjodcciloflgbaaDoor
