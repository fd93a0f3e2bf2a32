/- The only ending of a simple pattern: the reference. -/
import Derived.Test.YtdjbfneniohaaaaPJ0
import Derived.Test.YtdjbfneniohaaaaPAh
import Derived.Test.YtdjbfneniohaaaaPJo
import Derived.Deep.RegionHeld3
import Derived.Deep.QuietTactic
import Derived.BigQuiet
namespace Go.Proofs.Ytdjbfneniohaaaa
set_option linter.unusedVariables false
set_option linter.unusedSimpArgs false
set_option maxRecDepth 100000
open Go.RowKit
def oneI : Option Nat → Int
 | some e => e
 | none => -1
theorem scan_end (lo hi : Int) (s : ByteArray) (q : Bool) {i : Nat} (h : s.size ≤ i) : scanE lo hi s q (s.size - i) i = i := by rw [Nat.sub_eq_zero_of_le h]; rfl
theorem scan_yes (lo hi : Int) (s : ByteArray) (q : Bool) {i : Nat} (h : i < s.size) (hq : hasBit lo hi (byteAt s i) = q) : scanE lo hi s q (s.size - i) i = scanE lo hi s q (s.size - (i + 1)) (i + 1) := by
 rw [show s.size - i = (s.size - (i + 1)) + 1 by omega, scanE, if_pos hq]
theorem scan_no (lo hi : Int) (s : ByteArray) (q : Bool) {i : Nat} (h : i < s.size) (hq : hasBit lo hi (byteAt s i) ≠ q) : scanE lo hi s q (s.size - i) i = i := by
 rw [show s.size - i = (s.size - (i + 1)) + 1 by omega, scanE, if_neg hq]
abbrev oneP (r : Option Nat) (e : Ending) : Prop := e = .returned (.int .i64 (oneI r))
set_option maxHeartbeats 1000000 in
theorem specOne_2 (n lo hi : Int) (t s : ByteArray) (a : Nat) (A : Option Addr) (m c : Nat) (w : World) (ha : a ≤ s.size) (hs : s.size ≤ 120) (hn : 0 ≤ n) (hn2 : n ≤ 120) :
  Calls Try.prog 55 #[.agg #[.int .i64 2, .string t, .int .i64 n, .int .i64 lo, .int .i64 hi, .slice A m c], .string s, .int .i64 a] w fun e w' => oneP (oneE 2 n lo hi t s a) e ∧ Bel w w' := by
 by_cases hc : (a : Int) + n ≤ s.size
 case pos => as_aux_lemma =>
  have HE := hide (show oneE 2 n lo hi t s a = some (a + n.toNat) from by unfold oneE; rw [if_neg (by decide), if_pos (by decide), if_pos hc])
  have hd : decide (n ≤ (s.size : Int) - (a : Int)) = true := by simp; omega
  have HC := hide hc
  clear hc
  go_enter Try.func55, Try.ntmps55
  go_wp2_with (fail)
  all_goals (try (go_quiet (fail)))
  all_goals (try (go_wp2_with (fail)))
  all_goals (try (go_quiet (fail)))
  all_goals (try (go_wp2_with (fail)))
  all_goals
   go_returns
   exact ⟨by rw [HE.out]; simp only [Array.getD_eq_getD_getElem?, List.getElem?_toArray, List.getElem?_cons_succ, List.getElem?_cons_zero, Option.getD_some]; first | rfl | exact ret_i64 (by have hc := HC.out; simp only [oneI]; omega), bl⟩
 case neg => as_aux_lemma =>
  have HE := hide (show oneE 2 n lo hi t s a = none from by unfold oneE; rw [if_neg (by decide), if_pos (by decide), if_neg hc])
  have hd : decide (n ≤ (s.size : Int) - (a : Int)) = false := by simp; omega
  have HC := hide hc
  clear hc
  go_enter Try.func55, Try.ntmps55
  go_wp2_with (fail)
  all_goals (try (go_quiet (fail)))
  all_goals (try (go_wp2_with (fail)))
  all_goals (try (go_quiet (fail)))
  all_goals (try (go_wp2_with (fail)))
  all_goals
   go_returns
   exact ⟨by rw [HE.out]; simp only [Array.getD_eq_getD_getElem?, List.getElem?_toArray, List.getElem?_cons_succ, List.getElem?_cons_zero, Option.getD_some]; first | rfl | exact ret_i64 (by have hc := HC.out; simp only [oneI]; omega), bl⟩
set_option maxHeartbeats 1000000 in
theorem specOne_3 (n lo hi : Int) (t s : ByteArray) (a : Nat) (A : Option Addr) (m c : Nat) (w : World) (ha : a ≤ s.size) (hs : s.size ≤ 120) (hn : 0 ≤ n) (hn2 : n ≤ 120) :
  Calls Try.prog 55 #[.agg #[.int .i64 3, .string t, .int .i64 n, .int .i64 lo, .int .i64 hi, .slice A m c], .string s, .int .i64 a] w fun e w' => oneP (oneE 3 n lo hi t s a) e ∧ Bel w w' := by
 by_cases hc : n = a
 case pos => as_aux_lemma =>
  have HE := hide (show oneE 3 n lo hi t s a = some (a) from by unfold oneE; rw [if_neg (by decide), if_neg (by decide), if_pos (by decide), if_pos hc])
  have hd : (n == (a : Int)) = true := by simpa using hc
  have HC := hide hc
  clear hc
  go_enter Try.func55, Try.ntmps55
  go_wp2_with (fail)
  all_goals (try (go_quiet (fail)))
  all_goals (try (go_wp2_with (fail)))
  all_goals (try (go_quiet (fail)))
  all_goals (try (go_wp2_with (fail)))
  all_goals
   go_returns
   exact ⟨by rw [HE.out]; simp only [Array.getD_eq_getD_getElem?, List.getElem?_toArray, List.getElem?_cons_succ, List.getElem?_cons_zero, Option.getD_some]; first | rfl | exact ret_i64 (by have hc := HC.out; simp only [oneI]; omega), bl⟩
 case neg => as_aux_lemma =>
  have HE := hide (show oneE 3 n lo hi t s a = none from by unfold oneE; rw [if_neg (by decide), if_neg (by decide), if_pos (by decide), if_neg hc])
  have hd : (n == (a : Int)) = false := by simpa using hc
  have HC := hide hc
  clear hc
  go_enter Try.func55, Try.ntmps55
  go_wp2_with (fail)
  all_goals (try (go_quiet (fail)))
  all_goals (try (go_wp2_with (fail)))
  all_goals (try (go_quiet (fail)))
  all_goals (try (go_wp2_with (fail)))
  all_goals
   go_returns
   exact ⟨by rw [HE.out]; simp only [Array.getD_eq_getD_getElem?, List.getElem?_toArray, List.getElem?_cons_succ, List.getElem?_cons_zero, Option.getD_some]; first | rfl | exact ret_i64 (by have hc := HC.out; simp only [oneI]; omega), bl⟩
set_option maxHeartbeats 1000000 in
theorem specOne_4 (n lo hi : Int) (t s : ByteArray) (a : Nat) (A : Option Addr) (m c : Nat) (w : World) (ha : a ≤ s.size) (hs : s.size ≤ 120) (hn : 0 ≤ n) (hn2 : n ≤ 120) :
  Calls Try.prog 55 #[.agg #[.int .i64 4, .string t, .int .i64 n, .int .i64 lo, .int .i64 hi, .slice A m c], .string s, .int .i64 a] w fun e w' => oneP (oneE 4 n lo hi t s a) e ∧ Bel w w' := by
 by_cases hc : n = (s.size : Int) - a
 case pos => as_aux_lemma =>
  have HE := hide (show oneE 4 n lo hi t s a = some (a) from by unfold oneE; rw [if_neg (by decide), if_neg (by decide), if_neg (by decide), if_pos (by decide), if_pos hc])
  have hd : (n == (s.size : Int) - (a : Int)) = true := by simpa using hc
  have HC := hide hc
  clear hc
  go_enter Try.func55, Try.ntmps55
  go_wp2_with (fail)
  all_goals (try (go_quiet (fail)))
  all_goals (try (go_wp2_with (fail)))
  all_goals (try (go_quiet (fail)))
  all_goals (try (go_wp2_with (fail)))
  all_goals
   go_returns
   exact ⟨by rw [HE.out]; simp only [Array.getD_eq_getD_getElem?, List.getElem?_toArray, List.getElem?_cons_succ, List.getElem?_cons_zero, Option.getD_some]; first | rfl | exact ret_i64 (by have hc := HC.out; simp only [oneI]; omega), bl⟩
 case neg => as_aux_lemma =>
  have HE := hide (show oneE 4 n lo hi t s a = none from by unfold oneE; rw [if_neg (by decide), if_neg (by decide), if_neg (by decide), if_pos (by decide), if_neg hc])
  have hd : (n == (s.size : Int) - (a : Int)) = false := by simpa using hc
  have HC := hide hc
  clear hc
  go_enter Try.func55, Try.ntmps55
  go_wp2_with (fail)
  all_goals (try (go_quiet (fail)))
  all_goals (try (go_wp2_with (fail)))
  all_goals (try (go_quiet (fail)))
  all_goals (try (go_wp2_with (fail)))
  all_goals
   go_returns
   exact ⟨by rw [HE.out]; simp only [Array.getD_eq_getD_getElem?, List.getElem?_toArray, List.getElem?_cons_succ, List.getElem?_cons_zero, Option.getD_some]; first | rfl | exact ret_i64 (by have hc := HC.out; simp only [oneI]; omega), bl⟩
set_option maxHeartbeats 1000000 in
theorem specOne_5 (n lo hi : Int) (t s : ByteArray) (a : Nat) (A : Option Addr) (m c : Nat) (w : World) (ha : a ≤ s.size) (hs : s.size ≤ 120) (hn : 0 ≤ n) (hn2 : n ≤ 120) :
  Calls Try.prog 55 #[.agg #[.int .i64 5, .string t, .int .i64 n, .int .i64 lo, .int .i64 hi, .slice A m c], .string s, .int .i64 a] w fun e w' => oneP (oneE 5 n lo hi t s a) e ∧ Bel w w' := by
 by_cases h1 : (a : Int) ≤ n
 case pos =>
  have hd1 : decide ((a : Int) ≤ n) = true := by simpa using h1
  by_cases h2 : n ≤ (s.size : Int)
  case pos => as_aux_lemma =>
   have hd2 : decide (n ≤ (s.size : Int)) = true := by simpa using h2
   have HE := hide (show oneE 5 n lo hi t s a = some n.toNat from by unfold oneE; rw [if_neg (by decide), if_neg (by decide), if_neg (by decide), if_neg (by decide), if_pos (by decide), if_pos ⟨h1, h2⟩])
   clear h2
   go_enter Try.func55, Try.ntmps55
   go_wp2_with (fail)
   all_goals (try (go_quiet (fail)))
   all_goals (try (go_wp2_with (fail)))
   all_goals (try (go_quiet (fail)))
   all_goals (try (go_wp2_with (fail)))
   all_goals
    go_returns
    exact ⟨by rw [HE.out]; simp only [Array.getD_eq_getD_getElem?, List.getElem?_toArray, List.getElem?_cons_succ, List.getElem?_cons_zero, Option.getD_some]; first | rfl | exact ret_i64 (by simp only [oneI]; omega), bl⟩
  case neg => as_aux_lemma =>
   have hd2 : decide (n ≤ (s.size : Int)) = false := by simpa using h2
   have HE := hide (show oneE 5 n lo hi t s a = none from by unfold oneE; rw [if_neg (by decide), if_neg (by decide), if_neg (by decide), if_neg (by decide), if_pos (by decide), if_neg (fun h => h2 h.2)])
   clear h2
   go_enter Try.func55, Try.ntmps55
   go_wp2_with (fail)
   all_goals (try (go_quiet (fail)))
   all_goals (try (go_wp2_with (fail)))
   all_goals (try (go_quiet (fail)))
   all_goals (try (go_wp2_with (fail)))
   all_goals
    go_returns
    exact ⟨by rw [HE.out]; simp only [Array.getD_eq_getD_getElem?, List.getElem?_toArray, List.getElem?_cons_succ, List.getElem?_cons_zero, Option.getD_some]; first | rfl | exact ret_i64 (by simp only [oneI]; omega), bl⟩
 case neg =>
  have hd1 : decide ((a : Int) ≤ n) = false := by simpa using h1
  have HE := hide (show oneE 5 n lo hi t s a = none from by unfold oneE; rw [if_neg (by decide), if_neg (by decide), if_neg (by decide), if_neg (by decide), if_pos (by decide), if_neg (fun h => h1 h.1)])
  clear h1
  go_enter Try.func55, Try.ntmps55
  go_wp2_with (fail)
  all_goals (try (go_quiet (fail)))
  all_goals (try (go_wp2_with (fail)))
  all_goals (try (go_quiet (fail)))
  all_goals (try (go_wp2_with (fail)))
  all_goals
   go_returns
   exact ⟨by rw [HE.out]; simp only [Array.getD_eq_getD_getElem?, List.getElem?_toArray, List.getElem?_cons_succ, List.getElem?_cons_zero, Option.getD_some]; first | rfl | exact ret_i64 (by simp only [oneI]; omega), bl⟩
set_option maxHeartbeats 1000000 in
theorem specOne_6 (n lo hi : Int) (t s : ByteArray) (a : Nat) (A : Option Addr) (m c : Nat) (w : World) (ha : a ≤ s.size) (hs : s.size ≤ 120) (hn : 0 ≤ n) (hn2 : n ≤ 120) :
  Calls Try.prog 55 #[.agg #[.int .i64 6, .string t, .int .i64 n, .int .i64 lo, .int .i64 hi, .slice A m c], .string s, .int .i64 a] w fun e w' => oneP (oneE 6 n lo hi t s a) e ∧ Bel w w' := by
 by_cases hc : n ≤ (s.size : Int) - a
 case pos => as_aux_lemma =>
  have HE := hide (show oneE 6 n lo hi t s a = some (s.size - n.toNat) from by unfold oneE; rw [if_neg (by decide), if_neg (by decide), if_neg (by decide), if_neg (by decide), if_neg (by decide), if_pos (by decide), if_pos hc])
  have hd : decide (n ≤ (s.size : Int) - (a : Int)) = true := by simp; omega
  have HC := hide hc
  clear hc
  go_enter Try.func55, Try.ntmps55
  go_wp2_with (fail)
  all_goals (try (go_quiet (fail)))
  all_goals (try (go_wp2_with (fail)))
  all_goals (try (go_quiet (fail)))
  all_goals (try (go_wp2_with (fail)))
  all_goals
   go_returns
   exact ⟨by rw [HE.out]; simp only [Array.getD_eq_getD_getElem?, List.getElem?_toArray, List.getElem?_cons_succ, List.getElem?_cons_zero, Option.getD_some]; first | rfl | exact ret_i64 (by have hc := HC.out; simp only [oneI]; omega), bl⟩
 case neg => as_aux_lemma =>
  have HE := hide (show oneE 6 n lo hi t s a = none from by unfold oneE; rw [if_neg (by decide), if_neg (by decide), if_neg (by decide), if_neg (by decide), if_neg (by decide), if_pos (by decide), if_neg hc])
  have hd : decide (n ≤ (s.size : Int) - (a : Int)) = false := by simp; omega
  have HC := hide hc
  clear hc
  go_enter Try.func55, Try.ntmps55
  go_wp2_with (fail)
  all_goals (try (go_quiet (fail)))
  all_goals (try (go_wp2_with (fail)))
  all_goals (try (go_quiet (fail)))
  all_goals (try (go_wp2_with (fail)))
  all_goals
   go_returns
   exact ⟨by rw [HE.out]; simp only [Array.getD_eq_getD_getElem?, List.getElem?_toArray, List.getElem?_cons_succ, List.getElem?_cons_zero, Option.getD_some]; first | rfl | exact ret_i64 (by have hc := HC.out; simp only [oneI]; omega), bl⟩
set_option maxHeartbeats 1000000 in
theorem specOne_1 (n lo hi : Int) (t s : ByteArray) (a : Nat) (A : Option Addr) (m c : Nat) (w : World) (ha : a ≤ s.size) (hs : s.size ≤ 120) (ht : t.size ≤ 120) :
  Calls Try.prog 55 #[.agg #[.int .i64 1, .string t, .int .i64 n, .int .i64 lo, .int .i64 hi, .slice A m c], .string s, .int .i64 a] w fun e w' => oneP (oneE 1 n lo hi t s a) e ∧ Bel w w' := by
 by_cases h1 : a + t.size ≤ s.size
 case neg => as_aux_lemma =>
  have HE := hide (show oneE 1 n lo hi t s a = none from by unfold oneE; rw [if_pos (by decide), if_neg (fun h => h1 h.1)])
  have hd : decide ((t.size : Int) ≤ (s.size : Int) - (a : Int)) = false := by simp; omega
  clear h1
  go_enter Try.func55, Try.ntmps55
  go_wp2_with (fail)
  all_goals (try (go_quiet (fail)))
  all_goals (try (go_wp2_with (fail)))
  all_goals (try (go_quiet (fail)))
  all_goals (try (go_wp2_with (fail)))
  all_goals
   go_returns
   exact ⟨by rw [HE.out]; simp only [Array.getD_eq_getD_getElem?, List.getElem?_toArray, List.getElem?_cons_succ, List.getElem?_cons_zero, Option.getD_some]; first | rfl | exact ret_i64 (by simp only [oneI]; omega), bl⟩
 case pos =>
  have hd : decide ((t.size : Int) ≤ (s.size : Int) - (a : Int)) = true := by simp; omega
  obtain ⟨u, hu⟩ : ∃ u, s.extract a (a + t.size) = u := ⟨_, rfl⟩
  by_cases h2 : u = t
  case pos => as_aux_lemma =>
   have HE := hide (show oneE 1 n lo hi t s a = some (a + t.size) from by unfold oneE; rw [if_pos (by decide), if_pos ⟨h1, hu.trans h2⟩])
   have hb : (u.toList == t.toList) = true := by rw [h2]; simp
   clear h2
   go_enter Try.func55, Try.ntmps55
   go_wp2_with (fail)
   all_goals (try (go_quiet (fail)))
   all_goals (try (go_wp2_with (fail)))
   all_goals (try (go_quiet (fail)))
   all_goals (try (go_wp2_with (fail)))
   all_goals
    go_returns
    exact ⟨by rw [HE.out]; simp only [Array.getD_eq_getD_getElem?, List.getElem?_toArray, List.getElem?_cons_succ, List.getElem?_cons_zero, Option.getD_some]; first | rfl | exact ret_i64 (by simp only [oneI]; omega), bl⟩
  case neg => as_aux_lemma =>
   have HE := hide (show oneE 1 n lo hi t s a = none from by unfold oneE; rw [if_pos (by decide), if_neg (fun h => h2 (hu.symm.trans h.2))])
   have hb : (u.toList == t.toList) = false := by rw [beq_eq_false_iff_ne]; exact fun h => h2 ((ba_eq _ _).1 h)
   clear h2
   go_enter Try.func55, Try.ntmps55
   go_wp2_with (fail)
   all_goals (try (go_quiet (fail)))
   all_goals (try (go_wp2_with (fail)))
   all_goals (try (go_quiet (fail)))
   all_goals (try (go_wp2_with (fail)))
   all_goals
    go_returns
    exact ⟨by rw [HE.out]; simp only [Array.getD_eq_getD_getElem?, List.getElem?_toArray, List.getElem?_cons_succ, List.getElem?_cons_zero, Option.getD_some]; first | rfl | exact ret_i64 (by simp only [oneI]; omega), bl⟩
set_option maxHeartbeats 1000000 in
theorem specOne_7 (n lo hi : Int) (t s : ByteArray) (a : Nat) (A : Option Addr) (m c : Nat) (w : World) (ha : a ≤ s.size) (hs : s.size ≤ 120) :
  Calls Try.prog 55 #[.agg #[.int .i64 7, .string t, .int .i64 n, .int .i64 lo, .int .i64 hi, .slice A m c], .string s, .int .i64 a] w fun e w' => oneP (oneE 7 n lo hi t s a) e ∧ Bel w w' := by
 by_cases h1 : a < s.size
 case neg => as_aux_lemma =>
  have HE := hide (show oneE 7 n lo hi t s a = none from by unfold oneE; rw [if_neg (by decide), if_neg (by decide), if_neg (by decide), if_neg (by decide), if_neg (by decide), if_neg (by decide), if_pos (by decide), if_neg (fun h => h1 h.1)])
  have hd : decide ((a : Int) < (s.size : Int)) = false := by simp; omega
  go_enter Try.func55, Try.ntmps55
  go_wp2_with (fail)
  go_quiet (fail)
  all_goals (try (go_wp2_with (fail)))
  all_goals
   go_returns
   exact ⟨by rw [HE.out]; simp only [Array.getD_eq_getD_getElem?, List.getElem?_toArray, List.getElem?_cons_succ, List.getElem?_cons_zero, Option.getD_some]; first | rfl | exact ret_i64 (by simp only [oneI]; omega), bl⟩
 case pos =>
  have hd : decide ((a : Int) < (s.size : Int)) = true := by simp; omega
  have hB := hide (byteAt_eq s a h1)
  have hi0 : 0 ≤ (a : Int) := by omega
  have hi1 : (a : Int) < (s.size : Int) := by omega
  have hw1 : IntKind.i64.wrap ((a : Int) + 1) = (a : Int) + 1 := by rw [IntKind.wrap_i64]; omega
  cases hq : hasBit lo hi (byteAt s a)
  case false => as_aux_lemma =>
   have HE := hide (show oneE 7 n lo hi t s a = none from by unfold oneE; rw [if_neg (by decide), if_neg (by decide), if_neg (by decide), if_neg (by decide), if_neg (by decide), if_neg (by decide), if_pos (by decide), if_neg (fun h => by rw [hq] at h; simp at h)])
   have HQ := hide hq
   clear hq
   go_enter Try.func55, Try.ntmps55
   go_wp2_with (fail)
   go_region_held3 (fun w' => w'.cell? ⟨w.heap.size, 0, none⟩ = some (.int .i64 7) ∧ w'.cell? ⟨w.heap.size, 3, none⟩ = some (.int .i64 lo) ∧ w'.cell? ⟨w.heap.size, 4, none⟩ = some (.int .i64 hi)) (go_keep) (first | (go_at_call 69; rw [hB.out]; refine (specHasByte_any lo hi _ _ (byteAt_lt _ _)).mono ?_; rintro e w3 ⟨rfl, hb3⟩; rw [HQ.out]; (have hz3 := hb3.sz; obtain ⟨hk3_0, hf3_0, hl3_0, hn3_0⟩ := hb3.lay (w.heap.size))))
   all_goals (try (go_wp2_with (fail)))
   all_goals
    go_returns
    exact ⟨by rw [HE.out]; simp only [Array.getD_eq_getD_getElem?, List.getElem?_toArray, List.getElem?_cons_succ, List.getElem?_cons_zero, Option.getD_some]; first | rfl | exact ret_i64 (by simp only [oneI]; omega), bl⟩
  case true => as_aux_lemma =>
   have HE := hide (show oneE 7 n lo hi t s a = some (a + 1) from by unfold oneE; rw [if_neg (by decide), if_neg (by decide), if_neg (by decide), if_neg (by decide), if_neg (by decide), if_neg (by decide), if_pos (by decide), if_pos ⟨h1, by rw [hq]; rfl⟩])
   have HQ := hide hq
   clear hq
   go_enter Try.func55, Try.ntmps55
   go_wp2_with (fail)
   go_region_held3 (fun w' => w'.cell? ⟨w.heap.size, 0, none⟩ = some (.int .i64 7) ∧ w'.cell? ⟨w.heap.size, 3, none⟩ = some (.int .i64 lo) ∧ w'.cell? ⟨w.heap.size, 4, none⟩ = some (.int .i64 hi)) (go_keep) (first | (go_at_call 69; rw [hB.out]; refine (specHasByte_any lo hi _ _ (byteAt_lt _ _)).mono ?_; rintro e w3 ⟨rfl, hb3⟩; rw [HQ.out]; (have hz3 := hb3.sz; obtain ⟨hk3_0, hf3_0, hl3_0, hn3_0⟩ := hb3.lay (w.heap.size))))
   all_goals (try (go_wp2_with (fail)))
   all_goals
    go_returns
    exact ⟨by rw [HE.out]; simp only [Array.getD_eq_getD_getElem?, List.getElem?_toArray, List.getElem?_cons_succ, List.getElem?_cons_zero, Option.getD_some]; first | rfl | exact ret_i64 (by simp only [oneI]; omega), bl⟩
set_option maxHeartbeats 1000000 in
theorem specOne_8 (n lo hi : Int) (t s : ByteArray) (a : Nat) (A : Option Addr) (m c : Nat) (w : World) (ha : a ≤ s.size) (hs : s.size ≤ 120) :
  Calls Try.prog 55 #[.agg #[.int .i64 8, .string t, .int .i64 n, .int .i64 lo, .int .i64 hi, .slice A m c], .string s, .int .i64 a] w fun e w' => oneP (oneE 8 n lo hi t s a) e ∧ Bel w w' := by
 by_cases h1 : a < s.size
 case neg => as_aux_lemma =>
  have HE := hide (show oneE 8 n lo hi t s a = none from by unfold oneE; rw [if_neg (by decide), if_neg (by decide), if_neg (by decide), if_neg (by decide), if_neg (by decide), if_neg (by decide), if_pos (by decide), if_neg (fun h => h1 h.1)])
  have hd : decide ((a : Int) < (s.size : Int)) = false := by simp; omega
  go_enter Try.func55, Try.ntmps55
  go_wp2_with (fail)
  go_quiet (fail)
  all_goals (try (go_wp2_with (fail)))
  all_goals
   go_returns
   exact ⟨by rw [HE.out]; simp only [Array.getD_eq_getD_getElem?, List.getElem?_toArray, List.getElem?_cons_succ, List.getElem?_cons_zero, Option.getD_some]; first | rfl | exact ret_i64 (by simp only [oneI]; omega), bl⟩
 case pos =>
  have hd : decide ((a : Int) < (s.size : Int)) = true := by simp; omega
  have hB := hide (byteAt_eq s a h1)
  have hi0 : 0 ≤ (a : Int) := by omega
  have hi1 : (a : Int) < (s.size : Int) := by omega
  have hw1 : IntKind.i64.wrap ((a : Int) + 1) = (a : Int) + 1 := by rw [IntKind.wrap_i64]; omega
  cases hq : hasBit lo hi (byteAt s a)
  case false => as_aux_lemma =>
   have HE := hide (show oneE 8 n lo hi t s a = some (a + 1) from by unfold oneE; rw [if_neg (by decide), if_neg (by decide), if_neg (by decide), if_neg (by decide), if_neg (by decide), if_neg (by decide), if_pos (by decide), if_pos ⟨h1, by rw [hq]; rfl⟩])
   have HQ := hide hq
   clear hq
   go_enter Try.func55, Try.ntmps55
   go_wp2_with (fail)
   go_region_held3 (fun w' => w'.cell? ⟨w.heap.size, 0, none⟩ = some (.int .i64 8) ∧ w'.cell? ⟨w.heap.size, 3, none⟩ = some (.int .i64 lo) ∧ w'.cell? ⟨w.heap.size, 4, none⟩ = some (.int .i64 hi)) (go_keep) (first | (go_at_call 69; rw [hB.out]; refine (specHasByte_any lo hi _ _ (byteAt_lt _ _)).mono ?_; rintro e w3 ⟨rfl, hb3⟩; rw [HQ.out]; (have hz3 := hb3.sz; obtain ⟨hk3_0, hf3_0, hl3_0, hn3_0⟩ := hb3.lay (w.heap.size))))
   all_goals (try (go_wp2_with (fail)))
   all_goals
    go_returns
    exact ⟨by rw [HE.out]; simp only [Array.getD_eq_getD_getElem?, List.getElem?_toArray, List.getElem?_cons_succ, List.getElem?_cons_zero, Option.getD_some]; first | rfl | exact ret_i64 (by simp only [oneI]; omega), bl⟩
  case true => as_aux_lemma =>
   have HE := hide (show oneE 8 n lo hi t s a = none from by unfold oneE; rw [if_neg (by decide), if_neg (by decide), if_neg (by decide), if_neg (by decide), if_neg (by decide), if_neg (by decide), if_pos (by decide), if_neg (fun h => by rw [hq] at h; simp at h)])
   have HQ := hide hq
   clear hq
   go_enter Try.func55, Try.ntmps55
   go_wp2_with (fail)
   go_region_held3 (fun w' => w'.cell? ⟨w.heap.size, 0, none⟩ = some (.int .i64 8) ∧ w'.cell? ⟨w.heap.size, 3, none⟩ = some (.int .i64 lo) ∧ w'.cell? ⟨w.heap.size, 4, none⟩ = some (.int .i64 hi)) (go_keep) (first | (go_at_call 69; rw [hB.out]; refine (specHasByte_any lo hi _ _ (byteAt_lt _ _)).mono ?_; rintro e w3 ⟨rfl, hb3⟩; rw [HQ.out]; (have hz3 := hb3.sz; obtain ⟨hk3_0, hf3_0, hl3_0, hn3_0⟩ := hb3.lay (w.heap.size))))
   all_goals (try (go_wp2_with (fail)))
   all_goals
    go_returns
    exact ⟨by rw [HE.out]; simp only [Array.getD_eq_getD_getElem?, List.getElem?_toArray, List.getElem?_cons_succ, List.getElem?_cons_zero, Option.getD_some]; first | rfl | exact ret_i64 (by simp only [oneI]; omega), bl⟩
set_option maxHeartbeats 1000000 in
theorem specOne_9 (n lo hi : Int) (t s : ByteArray) (a : Nat) (A : Option Addr) (m c : Nat) (w : World) (ha : a ≤ s.size) (hs : s.size ≤ 120) :
  Calls Try.prog 55 #[.agg #[.int .i64 9, .string t, .int .i64 n, .int .i64 lo, .int .i64 hi, .slice A m c], .string s, .int .i64 a] w fun e w' => oneP (oneE 9 n lo hi t s a) e ∧ Bel w w' := by
 obtain ⟨r, hr⟩ : ∃ r, scanE lo hi s true (s.size - a) a = r := ⟨_, rfl⟩
 have HR := hide hr
 have hge := scanE_ge lo hi s true (s.size - a) a
 rw [hr] at hge
 by_cases hc : a < r
 case pos => as_aux_lemma =>
  have HE := hide (show oneE 9 n lo hi t s a = some r from by unfold oneE; rw [if_neg (by decide), if_neg (by decide), if_neg (by decide), if_neg (by decide), if_neg (by decide), if_neg (by decide), if_neg (by decide), if_pos (by decide), if_pos (by rw [hr]; exact hc), hr])
  clear hr
  go_enter Try.func55, Try.ntmps55
  go_wp2_with (fail)
  go_loopw [7] (fun iv wr => ∃ i : Nat, iv = .int .i64 i ∧ a ≤ i ∧ i ≤ s.size ∧ Hid (scanE lo hi s true (s.size - i) i = r) ∧ Bel (w.alloc (.cells #[.int .i64 9, .string t, .int .i64 n, .int .i64 lo, .int .i64 hi, .slice A m c] 28)) wr) (fun iv _ => s.size - (intOf iv).toNat)
  case atStart => exact ⟨a, rfl, by omega, ha, hide HR.out, bl⟩
  case round => as_aux_lemma =>
   obtain ⟨i, rfl, hai, hi0, hsc, hbx⟩ := hrel
   have hz0 := hbx.sz
   have q0 : wr.cell? ⟨w.heap.size, 0, none⟩ = some (.int .i64 9) := (hbx.box w.heap.size (by simp) 0).trans (by simp)
   have q3 : wr.cell? ⟨w.heap.size, 3, none⟩ = some (.int .i64 lo) := (hbx.box w.heap.size (by simp) 3).trans (by simp)
   have q4 : wr.cell? ⟨w.heap.size, 4, none⟩ = some (.int .i64 hi) := (hbx.box w.heap.size (by simp) 4).trans (by simp)
   have hl0 : w.heap.size < wr.heap.size := by omega
   have hbw : Bel w wr := bl
   by_cases h1 : i < s.size
   case neg => as_aux_lemma =>
    obtain rfl : r = i := (hsc.out.symm.trans (scan_end lo hi s true (by omega)))
    have hd : decide ((r : Int) < (s.size : Int)) = false := by simp; omega
    have hd5 : decide ((a : Int) < (r : Int)) = true := by simp; omega
    all_goals (try (go_quiet (fail)))
    all_goals (try (go_wp2_with (fail)))
    all_goals (try (go_quiet (fail)))
    all_goals (try (go_wp2_with (fail)))
    all_goals
     go_returns
     exact ⟨by rw [HE.out]; simp only [Array.getD_eq_getD_getElem?, List.getElem?_toArray, List.getElem?_cons_succ, List.getElem?_cons_zero, Option.getD_some]; first | rfl | exact ret_i64 (by simp only [oneI]; omega), bl⟩
   case pos =>
   have hd : decide ((i : Int) < (s.size : Int)) = true := by simp; omega
   have hB := hide (byteAt_eq s i h1)
   have hi1 : 0 ≤ (i : Int) := by omega
   have hi2 : (i : Int) < (s.size : Int) := by omega
   cases hq : hasBit lo hi (byteAt s i)
   case false => as_aux_lemma =>
    have HQ := hide hq
    obtain rfl : r = i := (hsc.out.symm.trans (scan_no lo hi s true h1 (by rw [hq]; decide)))
    clear hq
    have hd5 : decide ((a : Int) < (r : Int)) = true := by simp; omega
    all_goals (try (go_wp2_with (fail)))
    go_region_held3 (fun w' => w'.cell? ⟨w.heap.size, 0, none⟩ = some (.int .i64 9) ∧ w'.cell? ⟨w.heap.size, 3, none⟩ = some (.int .i64 lo) ∧ w'.cell? ⟨w.heap.size, 4, none⟩ = some (.int .i64 hi)) (go_keep) (first | (go_at_call 69; rw [hB.out]; refine (specHasByte_any lo hi _ _ (byteAt_lt _ _)).mono ?_; rintro e w3 ⟨rfl, hb3⟩; rw [HQ.out]; (have hz3 := hb3.sz; obtain ⟨hk3_0, hf3_0, hl3_0, hn3_0⟩ := hb3.lay (w.heap.size))))
    all_goals (try (go_wp2_with (fail)))
    all_goals (try (go_quiet (fail)))
    all_goals (try (go_wp2_with (fail)))
    all_goals
     go_returns
     exact ⟨by rw [HE.out]; simp only [Array.getD_eq_getD_getElem?, List.getElem?_toArray, List.getElem?_cons_succ, List.getElem?_cons_zero, Option.getD_some]; first | rfl | exact ret_i64 (by simp only [oneI]; omega), bl⟩
   case true => as_aux_lemma =>
    have HQ := hide hq
    have HS := hide (show scanE lo hi s true (s.size - (i + 1)) (i + 1) = r from (scan_yes lo hi s true h1 hq).symm.trans hsc.out)
    clear hq
    all_goals (try (go_wp2_with (fail)))
    go_region_held3 (fun w' => w'.cell? ⟨w.heap.size, 0, none⟩ = some (.int .i64 9) ∧ w'.cell? ⟨w.heap.size, 3, none⟩ = some (.int .i64 lo) ∧ w'.cell? ⟨w.heap.size, 4, none⟩ = some (.int .i64 hi)) (go_keep) (first | (go_at_call 69; rw [hB.out]; refine (specHasByte_any lo hi _ _ (byteAt_lt _ _)).mono ?_; rintro e w3 ⟨rfl, hb3⟩; rw [HQ.out]; (have hz3 := hb3.sz; obtain ⟨hk3_0, hf3_0, hl3_0, hn3_0⟩ := hb3.lay (w.heap.size))))
    all_goals (try (go_wp2_with (fail)))
    all_goals go_roundw
    case rel => exact ⟨i + 1, by go_num, by omega, by omega, hide HS.out, bl⟩
    case measure => simp [intOf]; omega
 case neg => as_aux_lemma =>
  have HE := hide (show oneE 9 n lo hi t s a = none from by unfold oneE; rw [if_neg (by decide), if_neg (by decide), if_neg (by decide), if_neg (by decide), if_neg (by decide), if_neg (by decide), if_neg (by decide), if_pos (by decide), if_neg (by rw [hr]; exact hc)])
  clear hr
  go_enter Try.func55, Try.ntmps55
  go_wp2_with (fail)
  go_loopw [7] (fun iv wr => ∃ i : Nat, iv = .int .i64 i ∧ a ≤ i ∧ i ≤ s.size ∧ Hid (scanE lo hi s true (s.size - i) i = r) ∧ Bel (w.alloc (.cells #[.int .i64 9, .string t, .int .i64 n, .int .i64 lo, .int .i64 hi, .slice A m c] 28)) wr) (fun iv _ => s.size - (intOf iv).toNat)
  case atStart => exact ⟨a, rfl, by omega, ha, hide HR.out, bl⟩
  case round => as_aux_lemma =>
   obtain ⟨i, rfl, hai, hi0, hsc, hbx⟩ := hrel
   have hz0 := hbx.sz
   have q0 : wr.cell? ⟨w.heap.size, 0, none⟩ = some (.int .i64 9) := (hbx.box w.heap.size (by simp) 0).trans (by simp)
   have q3 : wr.cell? ⟨w.heap.size, 3, none⟩ = some (.int .i64 lo) := (hbx.box w.heap.size (by simp) 3).trans (by simp)
   have q4 : wr.cell? ⟨w.heap.size, 4, none⟩ = some (.int .i64 hi) := (hbx.box w.heap.size (by simp) 4).trans (by simp)
   have hl0 : w.heap.size < wr.heap.size := by omega
   have hbw : Bel w wr := bl
   by_cases h1 : i < s.size
   case neg => as_aux_lemma =>
    obtain rfl : r = i := (hsc.out.symm.trans (scan_end lo hi s true (by omega)))
    have hd : decide ((r : Int) < (s.size : Int)) = false := by simp; omega
    have hd5 : decide ((a : Int) < (r : Int)) = false := by simp; omega
    all_goals (try (go_quiet (fail)))
    all_goals (try (go_wp2_with (fail)))
    all_goals (try (go_quiet (fail)))
    all_goals (try (go_wp2_with (fail)))
    all_goals
     go_returns
     exact ⟨by rw [HE.out]; simp only [Array.getD_eq_getD_getElem?, List.getElem?_toArray, List.getElem?_cons_succ, List.getElem?_cons_zero, Option.getD_some]; first | rfl | exact ret_i64 (by simp only [oneI]; omega), bl⟩
   case pos =>
   have hd : decide ((i : Int) < (s.size : Int)) = true := by simp; omega
   have hB := hide (byteAt_eq s i h1)
   have hi1 : 0 ≤ (i : Int) := by omega
   have hi2 : (i : Int) < (s.size : Int) := by omega
   cases hq : hasBit lo hi (byteAt s i)
   case false => as_aux_lemma =>
    have HQ := hide hq
    obtain rfl : r = i := (hsc.out.symm.trans (scan_no lo hi s true h1 (by rw [hq]; decide)))
    clear hq
    have hd5 : decide ((a : Int) < (r : Int)) = false := by simp; omega
    all_goals (try (go_wp2_with (fail)))
    go_region_held3 (fun w' => w'.cell? ⟨w.heap.size, 0, none⟩ = some (.int .i64 9) ∧ w'.cell? ⟨w.heap.size, 3, none⟩ = some (.int .i64 lo) ∧ w'.cell? ⟨w.heap.size, 4, none⟩ = some (.int .i64 hi)) (go_keep) (first | (go_at_call 69; rw [hB.out]; refine (specHasByte_any lo hi _ _ (byteAt_lt _ _)).mono ?_; rintro e w3 ⟨rfl, hb3⟩; rw [HQ.out]; (have hz3 := hb3.sz; obtain ⟨hk3_0, hf3_0, hl3_0, hn3_0⟩ := hb3.lay (w.heap.size))))
    all_goals (try (go_wp2_with (fail)))
    all_goals (try (go_quiet (fail)))
    all_goals (try (go_wp2_with (fail)))
    all_goals
     go_returns
     exact ⟨by rw [HE.out]; simp only [Array.getD_eq_getD_getElem?, List.getElem?_toArray, List.getElem?_cons_succ, List.getElem?_cons_zero, Option.getD_some]; first | rfl | exact ret_i64 (by simp only [oneI]; omega), bl⟩
   case true => as_aux_lemma =>
    have HQ := hide hq
    have HS := hide (show scanE lo hi s true (s.size - (i + 1)) (i + 1) = r from (scan_yes lo hi s true h1 hq).symm.trans hsc.out)
    clear hq
    all_goals (try (go_wp2_with (fail)))
    go_region_held3 (fun w' => w'.cell? ⟨w.heap.size, 0, none⟩ = some (.int .i64 9) ∧ w'.cell? ⟨w.heap.size, 3, none⟩ = some (.int .i64 lo) ∧ w'.cell? ⟨w.heap.size, 4, none⟩ = some (.int .i64 hi)) (go_keep) (first | (go_at_call 69; rw [hB.out]; refine (specHasByte_any lo hi _ _ (byteAt_lt _ _)).mono ?_; rintro e w3 ⟨rfl, hb3⟩; rw [HQ.out]; (have hz3 := hb3.sz; obtain ⟨hk3_0, hf3_0, hl3_0, hn3_0⟩ := hb3.lay (w.heap.size))))
    all_goals (try (go_wp2_with (fail)))
    all_goals go_roundw
    case rel => exact ⟨i + 1, by go_num, by omega, by omega, hide HS.out, bl⟩
    case measure => simp [intOf]; omega
set_option maxHeartbeats 1000000 in
theorem specOne_10 (n lo hi : Int) (t s : ByteArray) (a : Nat) (A : Option Addr) (m c : Nat) (w : World) (ha : a ≤ s.size) (hs : s.size ≤ 120) :
  Calls Try.prog 55 #[.agg #[.int .i64 10, .string t, .int .i64 n, .int .i64 lo, .int .i64 hi, .slice A m c], .string s, .int .i64 a] w fun e w' => oneP (oneE 10 n lo hi t s a) e ∧ Bel w w' := by
 obtain ⟨r, hr⟩ : ∃ r, scanE lo hi s false (s.size - a) a = r := ⟨_, rfl⟩
 have HR := hide hr
 have hge := scanE_ge lo hi s false (s.size - a) a
 rw [hr] at hge
 by_cases hc : r < s.size
 case pos => as_aux_lemma =>
  have HE := hide (show oneE 10 n lo hi t s a = some r from by unfold oneE; rw [if_neg (by decide), if_neg (by decide), if_neg (by decide), if_neg (by decide), if_neg (by decide), if_neg (by decide), if_neg (by decide), if_neg (by decide), if_pos (by decide), if_pos (by rw [hr]; exact hc), hr])
  clear hr
  go_enter Try.func55, Try.ntmps55
  go_wp2_with (fail)
  go_loopw [7] (fun iv wr => ∃ i : Nat, iv = .int .i64 i ∧ a ≤ i ∧ i ≤ s.size ∧ Hid (scanE lo hi s false (s.size - i) i = r) ∧ Bel (w.alloc (.cells #[.int .i64 10, .string t, .int .i64 n, .int .i64 lo, .int .i64 hi, .slice A m c] 28)) wr) (fun iv _ => s.size - (intOf iv).toNat)
  case atStart => exact ⟨a, rfl, by omega, ha, hide HR.out, bl⟩
  case round => as_aux_lemma =>
   obtain ⟨i, rfl, hai, hi0, hsc, hbx⟩ := hrel
   have hz0 := hbx.sz
   have q0 : wr.cell? ⟨w.heap.size, 0, none⟩ = some (.int .i64 10) := (hbx.box w.heap.size (by simp) 0).trans (by simp)
   have q3 : wr.cell? ⟨w.heap.size, 3, none⟩ = some (.int .i64 lo) := (hbx.box w.heap.size (by simp) 3).trans (by simp)
   have q4 : wr.cell? ⟨w.heap.size, 4, none⟩ = some (.int .i64 hi) := (hbx.box w.heap.size (by simp) 4).trans (by simp)
   have hl0 : w.heap.size < wr.heap.size := by omega
   have hbw : Bel w wr := bl
   by_cases h1 : i < s.size
   case neg => as_aux_lemma =>
    obtain rfl : r = i := (hsc.out.symm.trans (scan_end lo hi s false (by omega)))
    have hd : decide ((r : Int) < (s.size : Int)) = false := by simp; omega
    omega
   case pos =>
   have hd : decide ((i : Int) < (s.size : Int)) = true := by simp; omega
   have hB := hide (byteAt_eq s i h1)
   have hi1 : 0 ≤ (i : Int) := by omega
   have hi2 : (i : Int) < (s.size : Int) := by omega
   cases hq : hasBit lo hi (byteAt s i)
   case false => as_aux_lemma =>
    have HQ := hide hq
    have HS := hide (show scanE lo hi s false (s.size - (i + 1)) (i + 1) = r from (scan_yes lo hi s false h1 hq).symm.trans hsc.out)
    clear hq
    all_goals (try (go_wp2_with (fail)))
    go_region_held3 (fun w' => w'.cell? ⟨w.heap.size, 0, none⟩ = some (.int .i64 10) ∧ w'.cell? ⟨w.heap.size, 3, none⟩ = some (.int .i64 lo) ∧ w'.cell? ⟨w.heap.size, 4, none⟩ = some (.int .i64 hi)) (go_keep) (first | (go_at_call 69; rw [hB.out]; refine (specHasByte_any lo hi _ _ (byteAt_lt _ _)).mono ?_; rintro e w3 ⟨rfl, hb3⟩; rw [HQ.out]; (have hz3 := hb3.sz; obtain ⟨hk3_0, hf3_0, hl3_0, hn3_0⟩ := hb3.lay (w.heap.size))))
    all_goals (try (go_wp2_with (fail)))
    all_goals go_roundw
    case rel => exact ⟨i + 1, by go_num, by omega, by omega, hide HS.out, bl⟩
    case measure => simp [intOf]; omega
   case true => as_aux_lemma =>
    have HQ := hide hq
    obtain rfl : r = i := (hsc.out.symm.trans (scan_no lo hi s false h1 (by rw [hq]; decide)))
    clear hq
    all_goals (try (go_wp2_with (fail)))
    go_region_held3 (fun w' => w'.cell? ⟨w.heap.size, 0, none⟩ = some (.int .i64 10) ∧ w'.cell? ⟨w.heap.size, 3, none⟩ = some (.int .i64 lo) ∧ w'.cell? ⟨w.heap.size, 4, none⟩ = some (.int .i64 hi)) (go_keep) (first | (go_at_call 69; rw [hB.out]; refine (specHasByte_any lo hi _ _ (byteAt_lt _ _)).mono ?_; rintro e w3 ⟨rfl, hb3⟩; rw [HQ.out]; (have hz3 := hb3.sz; obtain ⟨hk3_0, hf3_0, hl3_0, hn3_0⟩ := hb3.lay (w.heap.size))))
    all_goals (try (go_wp2_with (fail)))
    all_goals (try (go_quiet (fail)))
    all_goals (try (go_wp2_with (fail)))
    all_goals
     go_returns
     exact ⟨by rw [HE.out]; simp only [Array.getD_eq_getD_getElem?, List.getElem?_toArray, List.getElem?_cons_succ, List.getElem?_cons_zero, Option.getD_some]; first | rfl | exact ret_i64 (by simp only [oneI]; omega), bl⟩
 case neg => as_aux_lemma =>
  have HE := hide (show oneE 10 n lo hi t s a = none from by unfold oneE; rw [if_neg (by decide), if_neg (by decide), if_neg (by decide), if_neg (by decide), if_neg (by decide), if_neg (by decide), if_neg (by decide), if_neg (by decide), if_pos (by decide), if_neg (by rw [hr]; exact hc)])
  clear hr
  go_enter Try.func55, Try.ntmps55
  go_wp2_with (fail)
  go_loopw [7] (fun iv wr => ∃ i : Nat, iv = .int .i64 i ∧ a ≤ i ∧ i ≤ s.size ∧ Hid (scanE lo hi s false (s.size - i) i = r) ∧ Bel (w.alloc (.cells #[.int .i64 10, .string t, .int .i64 n, .int .i64 lo, .int .i64 hi, .slice A m c] 28)) wr) (fun iv _ => s.size - (intOf iv).toNat)
  case atStart => exact ⟨a, rfl, by omega, ha, hide HR.out, bl⟩
  case round => as_aux_lemma =>
   obtain ⟨i, rfl, hai, hi0, hsc, hbx⟩ := hrel
   have hz0 := hbx.sz
   have q0 : wr.cell? ⟨w.heap.size, 0, none⟩ = some (.int .i64 10) := (hbx.box w.heap.size (by simp) 0).trans (by simp)
   have q3 : wr.cell? ⟨w.heap.size, 3, none⟩ = some (.int .i64 lo) := (hbx.box w.heap.size (by simp) 3).trans (by simp)
   have q4 : wr.cell? ⟨w.heap.size, 4, none⟩ = some (.int .i64 hi) := (hbx.box w.heap.size (by simp) 4).trans (by simp)
   have hl0 : w.heap.size < wr.heap.size := by omega
   have hbw : Bel w wr := bl
   by_cases h1 : i < s.size
   case neg => as_aux_lemma =>
    obtain rfl : r = i := (hsc.out.symm.trans (scan_end lo hi s false (by omega)))
    have hd : decide ((r : Int) < (s.size : Int)) = false := by simp; omega
    all_goals (try (go_quiet (fail)))
    all_goals (try (go_wp2_with (fail)))
    all_goals (try (go_quiet (fail)))
    all_goals (try (go_wp2_with (fail)))
    all_goals
     go_returns
     exact ⟨by rw [HE.out]; simp only [Array.getD_eq_getD_getElem?, List.getElem?_toArray, List.getElem?_cons_succ, List.getElem?_cons_zero, Option.getD_some]; first | rfl | exact ret_i64 (by simp only [oneI]; omega), bl⟩
   case pos =>
   have hd : decide ((i : Int) < (s.size : Int)) = true := by simp; omega
   have hB := hide (byteAt_eq s i h1)
   have hi1 : 0 ≤ (i : Int) := by omega
   have hi2 : (i : Int) < (s.size : Int) := by omega
   cases hq : hasBit lo hi (byteAt s i)
   case false => as_aux_lemma =>
    have HQ := hide hq
    have HS := hide (show scanE lo hi s false (s.size - (i + 1)) (i + 1) = r from (scan_yes lo hi s false h1 hq).symm.trans hsc.out)
    clear hq
    all_goals (try (go_wp2_with (fail)))
    go_region_held3 (fun w' => w'.cell? ⟨w.heap.size, 0, none⟩ = some (.int .i64 10) ∧ w'.cell? ⟨w.heap.size, 3, none⟩ = some (.int .i64 lo) ∧ w'.cell? ⟨w.heap.size, 4, none⟩ = some (.int .i64 hi)) (go_keep) (first | (go_at_call 69; rw [hB.out]; refine (specHasByte_any lo hi _ _ (byteAt_lt _ _)).mono ?_; rintro e w3 ⟨rfl, hb3⟩; rw [HQ.out]; (have hz3 := hb3.sz; obtain ⟨hk3_0, hf3_0, hl3_0, hn3_0⟩ := hb3.lay (w.heap.size))))
    all_goals (try (go_wp2_with (fail)))
    all_goals go_roundw
    case rel => exact ⟨i + 1, by go_num, by omega, by omega, hide HS.out, bl⟩
    case measure => simp [intOf]; omega
   case true => as_aux_lemma =>
    have HQ := hide hq
    obtain rfl : r = i := (hsc.out.symm.trans (scan_no lo hi s false h1 (by rw [hq]; decide)))
    clear hq
    exact absurd h1 hc
set_option maxHeartbeats 1000000 in
theorem specOne_12 (n lo hi : Int) (t s : ByteArray) (a : Nat) (A : Option Addr) (m c : Nat) (w : World) (ha : a ≤ s.size) (hs : s.size ≤ 120) :
  Calls Try.prog 55 #[.agg #[.int .i64 12, .string t, .int .i64 n, .int .i64 lo, .int .i64 hi, .slice A m c], .string s, .int .i64 a] w fun e w' => oneP (oneE 12 n lo hi t s a) e ∧ Bel w w' := by
 have HE := hide (show oneE 12 n lo hi t s a = some s.size from by unfold oneE; rw [if_neg (by decide), if_neg (by decide), if_neg (by decide), if_neg (by decide), if_neg (by decide), if_neg (by decide), if_neg (by decide), if_neg (by decide), if_neg (by decide), if_pos (by decide)])
 go_enter Try.func55, Try.ntmps55
 go_wp2_with (fail)
 all_goals (try (go_quiet (fail)))
 all_goals (try (go_wp2_with (fail)))
 all_goals (try (go_quiet (fail)))
 all_goals (try (go_wp2_with (fail)))
 all_goals
  go_returns
  exact ⟨by rw [HE.out]; simp only [Array.getD_eq_getD_getElem?, List.getElem?_toArray, List.getElem?_cons_succ, List.getElem?_cons_zero, Option.getD_some]; first | rfl | exact ret_i64 (by simp only [oneI]; omega), bl⟩
set_option maxHeartbeats 1000000 in
theorem specOne_22 (n lo hi : Int) (t s : ByteArray) (a : Nat) (A : Option Addr) (m c : Nat) (w : World) (ha : a ≤ s.size) (hs : s.size ≤ 120) :
  Calls Try.prog 55 #[.agg #[.int .i64 22, .string t, .int .i64 n, .int .i64 lo, .int .i64 hi, .slice A m c], .string s, .int .i64 a] w fun e w' => oneP (oneE 22 n lo hi t s a) e ∧ Bel w w' := by
 have HE := hide (show oneE 22 n lo hi t s a = some a from by unfold oneE; rw [if_neg (by decide), if_neg (by decide), if_neg (by decide), if_neg (by decide), if_neg (by decide), if_neg (by decide), if_neg (by decide), if_neg (by decide), if_neg (by decide), if_neg (by decide), if_pos (by decide)])
 go_enter Try.func55, Try.ntmps55
 go_wp2_with (fail)
 all_goals (try (go_quiet (fail)))
 all_goals (try (go_wp2_with (fail)))
 all_goals (try (go_quiet (fail)))
 all_goals (try (go_wp2_with (fail)))
 all_goals
  go_returns
  exact ⟨by rw [HE.out]; simp only [Array.getD_eq_getD_getElem?, List.getElem?_toArray, List.getElem?_cons_succ, List.getElem?_cons_zero, Option.getD_some]; first | rfl | exact ret_i64 (by simp only [oneI]; omega), bl⟩
set_option maxHeartbeats 1000000 in
theorem specOne_23 (n lo hi : Int) (t s : ByteArray) (a : Nat) (A : Option Addr) (m c : Nat) (w : World) (ha : a ≤ s.size) (hs : s.size ≤ 120) :
  Calls Try.prog 55 #[.agg #[.int .i64 23, .string t, .int .i64 n, .int .i64 lo, .int .i64 hi, .slice A m c], .string s, .int .i64 a] w fun e w' => oneP (oneE 23 n lo hi t s a) e ∧ Bel w w' := by
 have HE := hide (show oneE 23 n lo hi t s a = none from by unfold oneE; simp)
 go_enter Try.func55, Try.ntmps55
 go_wp2_with (fail)
 all_goals (try (go_quiet (fail)))
 all_goals (try (go_wp2_with (fail)))
 all_goals (try (go_quiet (fail)))
 all_goals (try (go_wp2_with (fail)))
 all_goals
  go_returns
  exact ⟨by rw [HE.out]; simp only [Array.getD_eq_getD_getElem?, List.getElem?_toArray, List.getElem?_cons_succ, List.getElem?_cons_zero, Option.getD_some]; first | rfl | exact ret_i64 (by simp only [oneI]; omega), bl⟩
end Go.Proofs.Ytdjbfneniohaaaa
