/- Walks of the small text functions: MatchAt, AnyAt, ManyAt, UptoFrom. -/
import Derived.Test.YtmikipcfepgogaaB
namespace Go.Proofs.Ytmikipcfepgogaa
set_option linter.unusedVariables false
set_option linter.unusedSimpArgs false
set_option maxRecDepth 100000
open Go.RowKit

def goodPl (s : ByteArray) (n : Int) : Bool := decide (s.size ≤ 120) && decide (1 ≤ n) && decide (n ≤ s.size + 1)
theorem goodPl_iff (s : ByteArray) (n : Int) : goodPl s n = true ↔ s.size ≤ 120 ∧ 1 ≤ n ∧ n ≤ s.size + 1 := by
  simp [goodPl, and_assoc]

set_option maxHeartbeats 400000 in
theorem l17At_any (s : ByteArray) (n : Int) (w : World) (hs : s.size ≤ maxLen) :
    Calls Try.prog 69 #[.string s, .int .i64 n] w fun e w' => e = .returned (.bool (goodPl s n)) ∧ w = w' := by
  unfold maxLen at hs
  by_cases h1 : s.size ≤ 120 <;> by_cases h2 : 1 ≤ n <;> by_cases h3 : n ≤ s.size + 1
  all_goals
    go_enter Try.func69, Try.ntmps69
    go_wp2
    all_goals
      go_ret
      exact ⟨by simp [goodPl, *], rfl⟩

set_option maxHeartbeats 400000 in
theorem goodPlace_any (s : ByteArray) (n : Int) (w : World) (hs : s.size ≤ maxLen) :
    Calls Try.prog 61 #[.string s, .int .i64 n] w fun e w' => e = .returned (.bool (goodPl s n)) ∧ w = w' := by
  unfold maxLen at hs
  by_cases h1 : s.size ≤ 120 <;> by_cases h2 : 1 ≤ n <;> by_cases h3 : n ≤ s.size + 1
  all_goals
    go_enter Try.func61, Try.ntmps61
    go_wp2
    all_goals
      go_ret
      exact ⟨by simp [goodPl, *], rfl⟩

/-- What MatchAt comes to. -/
def matchAt (p s : ByteArray) (n : Int) : Bool := goodPl s n && decide ((p.size : Int) ≤ s.size - n + 1) && ((s.extract (n.toNat - 1) (n - 1 + p.size).toNat).toList == p.toList)
def matchAtN (p s : ByteArray) (n : Int) : Int := if matchAt p s n then n + p.size else 0
theorem extract_sub (s : ByteArray) (n : Int) (m : Nat) (h1 : 1 ≤ n) (h : m ≤ s.size - (n.toNat - 1)) :
    ((s.extract (n.toNat - 1) s.size).extract 0 m) = s.extract (n.toNat - 1) (n - 1 + m).toNat := by
  have e : (n - 1 + m).toNat = n.toNat - 1 + m := by omega
  rw [e]
  apply ByteArray.ext
  simp only [ByteArray.data_extract]
  apply Array.toList_inj.1
  simp [List.take_take, List.extract]
  omega
set_option maxHeartbeats 400000 in
theorem specMatchAt_any (p s : ByteArray) (n : Int) (w : World) (hp : p.size ≤ maxLen) (hs : s.size ≤ maxLen) :
    Calls Try.prog 70 #[.string p, .string s, .int .i64 n] w fun e w' => e = .returned (.tuple #[.int .i64 (matchAtN p s n), .bool (matchAt p s n)]) ∧ w = w' := by
  have hs' := hs
  unfold maxLen at hs hp
  have hx := goodPl_iff s n
  cases hg : goodPl s n
  all_goals
    rw [hg] at hx
    simp only [true_iff, false_iff, reduceCtorEq] at hx
    have G := hide hg
    clear hg
    try obtain ⟨g1, g2, g3⟩ := hx
    go_enter Try.func70, Try.ntmps70
    go_wp2_with (go_at_call 69; refine (l17At_any _ _ _ hs').mono ?_; rintro e w' ⟨rfl, rfl⟩; rw [G.out])
    all_goals
      go_returns
      go_light
      refine ⟨?_, rfl⟩
      have G := G.out
      simp only [Array.getD_eq_getD_getElem?, List.getElem?_toArray, List.getElem?_cons_succ, List.getElem?_cons_zero, Option.getD_some]
      grind [matchAtN, matchAt]
set_option maxHeartbeats 400000 in
theorem hasPrefix_any (s p : ByteArray) (w : World) (hp : p.size ≤ maxLen) (hs : s.size ≤ maxLen) :
    Calls Try.prog 71 #[.string s, .string p] w fun e w' => e = .returned (.bool (decide (p.size ≤ s.size) && ((s.extract 0 p.size).toList == p.toList))) ∧ w = w' := by
  unfold maxLen at hs hp
  by_cases h : p.size ≤ s.size
  all_goals
    go_enter Try.func71, Try.ntmps71
    go_wp2
    go_returns
    go_light
    refine ⟨?_, rfl⟩
    simp [h]
set_option maxHeartbeats 400000 in
theorem implMatchAt_any (p s : ByteArray) (n : Int) (w : World) (hp : p.size ≤ maxLen) (hs : s.size ≤ maxLen) :
    Calls Try.prog 35 #[.string p, .string s, .int .i64 n] w fun e w' => e = .returned (.tuple #[.int .i64 (matchAtN p s n), .bool (matchAt p s n)]) ∧ w = w' := by
  have hs' := hs
  have hp' := hp
  unfold maxLen at hs hp
  have hx := goodPl_iff s n
  have ee := hide (extract_sub s n p.size)
  cases hg : goodPl s n
  all_goals
    rw [hg] at hx
    simp only [true_iff, false_iff, reduceCtorEq] at hx
    have G := hide hg
    clear hg
    try obtain ⟨g1, g2, g3⟩ := hx
    by_cases hps : p.size ≤ s.size - (n.toNat - 1)
    all_goals
     go_enter Try.func35, Try.ntmps35
     go_wp2_with (first | (go_at_call 61; refine (goodPlace_any _ _ _ hs').mono ?_; rintro e w' ⟨rfl, rfl⟩; rw [G.out]) | (go_at_call 71; refine (hasPrefix_any _ _ _ hp' (by simp; unfold maxLen; omega)).mono ?_; rintro e w' ⟨rfl, rfl⟩))
     all_goals
      go_returns
      go_light
      refine ⟨?_, rfl⟩
      have G := G.out
      have ee := ee.out
      simp only [Array.getD_eq_getD_getElem?, List.getElem?_toArray, List.getElem?_cons_succ, List.getElem?_cons_zero, Option.getD_some]
      grind [matchAtN, matchAt]
end Go.Proofs.Ytmikipcfepgogaa
