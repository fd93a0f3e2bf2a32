/- Valid cores: what decides; the number of a leaf in the reference. -/
import Derived.Test.YtgahehipgabhpaaDoorV1
namespace Go.Proofs.YtgahehipgabhpaaDoor
set_option linter.unusedVariables false
set_option linter.unusedSimpArgs false
set_option maxRecDepth 100000
open Go.RowKit

/-- The number of a node. -/
def numOk (sl gl ro re k n : Int) : Bool := if k = 1 then decide (-999999999999 ≤ n) && decide (n ≤ 999999999999) else if k = 5 then decide (0 ≤ n) && decide (n ≤ sl - 1) else if k = 6 then decide (0 ≤ n) && decide (n ≤ gl - 1)
  else if k = 7 then decide (0 ≤ n) && decide (n ≤ ro - 1) else if k = 8 then decide (0 ≤ n) && decide (n ≤ 54) else if k = 9 then decide (0 ≤ n) && decide (n ≤ re - 1) else if k = 10 then decide (1 ≤ n) && decide (n ≤ 2) else decide (n = 0)
/-- The text of a node. -/
def txtOk (k : Int) (t : ByteArray) : Bool := if k = 2 then decide (t.size ≤ 120) else if k = 3 then ascB t else decide (t.size = 0)
/-- Where a node may stand. -/
def ctxOk (k : Int) (loop made : Bool) : Bool := if k = 20 ∨ k = 21 then loop else if 23 ≤ k ∧ k ≤ 25 then !made else true
def TCore.kind : TCore → Int | .mk k _ _ _ _ _ => k
def TCore.text : TCore → ByteArray | .mk _ _ _ _ t _ => t
/-- The kids that an operator asks for. -/
def kidsOk (op : Int) (ks : List TCore) : Bool := if op = 79 then (match ks with | _ :: b :: _ => decide (b.kind = 2) && nameB b.text | _ => false) else if op = 81 then (match ks with | a :: _ => decide (a.kind = 5 ∨ a.kind = 6) | [] => false) else true
/-- The head of a node. -/
def hdOk (k op li : Int) (m : Nat) : Bool := decide (1 ≤ k) && decide (k ≤ 28) && decide (0 ≤ li) && decide ((lohi k op).1 ≤ (m : Int)) && decide ((m : Int) ≤ (lohi k op).2)
def opOk (k op : Int) : Bool := decide (k = 11) || decide (op = 0)
/-- Does the kid at i stand in a loop? -/
def innerB (k : Int) (i : Nat) (loop : Bool) : Bool := if k = 18 ∨ k = 19 then decide (i = 1) else if k = 20 ∨ k = 26 then false else loop
mutual
def TCore.vld (sl gl ro re : Int) : TCore → Bool → Bool → Bool
  | .mk k op n li t ks, loop, made => hdOk k op li ks.length && numOk sl gl ro re k n && opOk k op && txtOk k t && ctxOk k loop made && kidsOk op ks && TCore.vlds sl gl ro re k loop (made || decide (k = 26)) 0 ks
def TCore.vlds (sl gl ro re k : Int) (loop made : Bool) : Nat → List TCore → Bool
  | _, [] => true
  | i, x :: r => TCore.vld sl gl ro re x (innerB k i loop) made && TCore.vlds sl gl ro re k loop made (i + 1) r
end
theorem TCore.vlds_at {sl gl ro re k : Int} {loop made : Bool} : ∀ {l : List TCore} {i m : Nat} (h : m < l.length), l[m].vld sl gl ro re (innerB k (i + m) loop) made = false → TCore.vlds sl gl ro re k loop made i l = false
  | x :: r, i, 0, _, h => by simp only [TCore.vlds]; simp at h; rw [h]; rfl
  | x :: r, i, m + 1, hm, h => by
    simp only [TCore.vlds]
    rw [TCore.vlds_at (l := r) (i := i + 1) (m := m) (by simpa using hm) (by rw [show i + 1 + m = i + (m + 1) by omega]; simpa using h), Bool.and_false]
theorem TCore.vlds_all {sl gl ro re k : Int} {loop made : Bool} : ∀ {l : List TCore} {i : Nat}, (∀ m (h : m < l.length), l[m].vld sl gl ro re (innerB k (i + m) loop) made = true) → TCore.vlds sl gl ro re k loop made i l = true
  | [], _, _ => rfl
  | x :: r, i, h => by
    simp only [TCore.vlds]
    have h0 := h 0 (by simp)
    simp only [Nat.add_zero, List.getElem_cons_zero] at h0
    rw [h0, TCore.vlds_all (l := r) (i := i + 1) fun m hm => by
      have := h (m + 1) (by simpa using hm)
      rw [show i + 1 + m = i + (m + 1) by omega]
      simpa using this]
    rfl
theorem vld_mk {sl gl ro re k op n li : Int} {t : ByteArray} {ks : List TCore} {loop made : Bool} : (TCore.mk k op n li t ks).vld sl gl ro re loop made = (hdOk k op li ks.length && numOk sl gl ro re k n && opOk k op && txtOk k t && ctxOk k loop made && kidsOk op ks && TCore.vlds sl gl ro re k loop (made || decide (k = 26)) 0 ks) := by simp only [TCore.vld]
set_option maxHeartbeats 2000000 in
theorem l10Leaf_any (m0 m1 m2 c0 c1 c2 m c : Nat) (A0 A1 A2 A : Option Addr) (mn sl k op n li : Int) (t : ByteArray) (w : World) (h0 : m0 ≤ 1000000000) (h1 : m1 ≤ 1000000000) (h2 : m2 ≤ 1000000000) (hs0 : 0 ≤ sl) (hs1 : sl ≤ 1000000000) :
    Calls Tryd.prog 39 #[.agg #[.slice A0 m0 c0, .slice A1 m1 c1, .slice A2 m2 c2, .int .i64 mn], .int .i64 sl, .agg #[.int .i64 k, .int .i64 op, .int .i64 n, .int .i64 li, .string t, .slice A m c]] w fun e w' => e = .returned (.bool (numOk sl m2 m0 m1 k n)) ∧ Bel w w' := by

  rcases (by omega : k = 1 ∨ k = 5 ∨ k = 6 ∨ k = 7 ∨ k = 8 ∨ k = 9 ∨ k = 10 ∨ (k ≠ 1 ∧ k ≠ 5 ∧ k ≠ 6 ∧ k ≠ 7 ∧ k ≠ 8 ∧ k ≠ 9 ∧ k ≠ 10)) with rfl | rfl | rfl | rfl | rfl | rfl | rfl | ⟨h101, h105, h106, h107, h108, h109, h110⟩
  · rw [show numOk sl m2 m0 m1 1 n = (decide (-999999999999 ≤ n) && decide (n ≤ 999999999999)) by unfold numOk; rw [if_pos rfl]]
    by_cases ha : -999999999999 ≤ n
    · have da : decide ((-999999999999 : Int) ≤ n) = true := by simpa using ha
      go_enter Tryd.func39, Tryd.ntmps39
      go_wp2_with (fail)
      all_goals
        go_returns
        exact ⟨by simp [ha], bl⟩
    · have da : decide ((-999999999999 : Int) ≤ n) = false := by simpa using ha
      go_enter Tryd.func39, Tryd.ntmps39
      go_wp2_with (fail)
      all_goals
        go_returns
        exact ⟨by simp [ha], bl⟩
  · rw [show numOk sl m2 m0 m1 5 n = (decide (0 ≤ n) && decide (n ≤ sl - 1)) by unfold numOk; simp]
    go_enter Tryd.func39, Tryd.ntmps39
    go_wp2_with (go_at_call 13; refine (l1In_any _ _ _ _).mono ?_; rintro e w9 ⟨rfl, rfl⟩)
    all_goals
      go_returns
      exact ⟨by rfl, bl⟩
  · rw [show numOk sl m2 m0 m1 6 n = (decide (0 ≤ n) && decide (n ≤ (m2 : Int) - 1)) by unfold numOk; simp]
    go_enter Tryd.func39, Tryd.ntmps39
    go_wp2_with (go_at_call 13; refine (l1In_any _ _ _ _).mono ?_; rintro e w9 ⟨rfl, rfl⟩)
    all_goals
      go_returns
      exact ⟨by rfl, bl⟩
  · rw [show numOk sl m2 m0 m1 7 n = (decide (0 ≤ n) && decide (n ≤ (m0 : Int) - 1)) by unfold numOk; simp]
    go_enter Tryd.func39, Tryd.ntmps39
    go_wp2_with (go_at_call 13; refine (l1In_any _ _ _ _).mono ?_; rintro e w9 ⟨rfl, rfl⟩)
    all_goals
      go_returns
      exact ⟨by rfl, bl⟩
  · rw [show numOk sl m2 m0 m1 8 n = (decide (0 ≤ n) && decide (n ≤ 54)) by unfold numOk; simp]
    go_enter Tryd.func39, Tryd.ntmps39
    go_wp2_with (go_at_call 13; refine (l1In_any _ _ _ _).mono ?_; rintro e w9 ⟨rfl, rfl⟩)
    all_goals
      go_returns
      exact ⟨by rfl, bl⟩
  · rw [show numOk sl m2 m0 m1 9 n = (decide (0 ≤ n) && decide (n ≤ (m1 : Int) - 1)) by unfold numOk; simp]
    go_enter Tryd.func39, Tryd.ntmps39
    go_wp2_with (go_at_call 13; refine (l1In_any _ _ _ _).mono ?_; rintro e w9 ⟨rfl, rfl⟩)
    all_goals
      go_returns
      exact ⟨by rfl, bl⟩
  · rw [show numOk sl m2 m0 m1 10 n = (decide (1 ≤ n) && decide (n ≤ 2)) by unfold numOk; simp]
    go_enter Tryd.func39, Tryd.ntmps39
    go_wp2_with (go_at_call 13; refine (l1In_any _ _ _ _).mono ?_; rintro e w9 ⟨rfl, rfl⟩)
    all_goals
      go_returns
      exact ⟨by rfl, bl⟩
  · rw [show numOk sl m2 m0 m1 k n = decide (n = 0) by unfold numOk; simp [h101, h105, h106, h107, h108, h109, h110]]
    have e1 : (k == 1) = false := by rw [beq_eq_false_iff_ne]; exact h101
    have e5 : (k == 5) = false := by rw [beq_eq_false_iff_ne]; exact h105
    have e6 : (k == 6) = false := by rw [beq_eq_false_iff_ne]; exact h106
    have e7 : (k == 7) = false := by rw [beq_eq_false_iff_ne]; exact h107
    have e8 : (k == 8) = false := by rw [beq_eq_false_iff_ne]; exact h108
    have e9 : (k == 9) = false := by rw [beq_eq_false_iff_ne]; exact h109
    have e10 : (k == 10) = false := by rw [beq_eq_false_iff_ne]; exact h110
    clear h101 h105 h106 h107 h108 h109 h110
    go_enter Tryd.func39, Tryd.ntmps39
    go_wp2_with (fail)
    all_goals
      go_returns
      exact ⟨by first | rfl | (congr 1; rw [Bool.eq_iff_iff]; simp), bl⟩
end Go.Proofs.YtgahehipgabhpaaDoor
