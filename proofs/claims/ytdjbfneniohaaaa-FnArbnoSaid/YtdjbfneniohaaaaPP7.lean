/- The program's test of a pattern, case by case. -/
import Derived.Test.YtdjbfneniohaaaaPP1
namespace Go.Proofs.Ytdjbfneniohaaaa
set_option linter.unusedVariables false
set_option linter.unusedSimpArgs false
set_option maxRecDepth 100000
open Go.RowKit
set_option maxHeartbeats 1000000 in
theorem validPattern_lo (op : Int) (t : ByteArray) (n lo hi vars : Int) (ks : List TPattern) (A : Option Addr) (c : Nat) (S : Nat → Prop) (w : World) (hg : op < 1) (hc : c ≤ maxLen) (hlc : ks.length ≤ c) (hvr : 0 ≤ vars ∧ vars ≤ 24) :
  Calls Try.prog 57 #[.agg #[.int .i64 op, .string t, .int .i64 n, .int .i64 lo, .int .i64 hi, .slice A ks.length c], .int .i64 vars] w fun e w' => e = .returned (.bool false) ∧ Bel w w' := by
 unfold maxLen at hc
 have f1 : decide (op < 1) = true := by simp; omega
 go_enter Try.func57, Try.ntmps57
 go_wp2_with (fail)
 go_quiet ((go_at_call 70; exact quiet_ws (patternKids_any _ _)))
 go_wp2_with (fail)
 all_goals
  go_returns
  exact ⟨rfl, bl⟩
set_option maxHeartbeats 1000000 in
theorem validPattern_hi (op : Int) (t : ByteArray) (n lo hi vars : Int) (ks : List TPattern) (A : Option Addr) (c : Nat) (S : Nat → Prop) (w : World) (hg : 23 < op) (hc : c ≤ maxLen) (hlc : ks.length ≤ c) (hvr : 0 ≤ vars ∧ vars ≤ 24) :
  Calls Try.prog 57 #[.agg #[.int .i64 op, .string t, .int .i64 n, .int .i64 lo, .int .i64 hi, .slice A ks.length c], .int .i64 vars] w fun e w' => e = .returned (.bool false) ∧ Bel w w' := by
 unfold maxLen at hc
 have f1 : decide (op < 1) = false := by simp; omega
 have f2 : decide (23 < op) = true := by simp; omega
 go_enter Try.func57, Try.ntmps57
 go_wp2_with (fail)
 go_quiet ((go_at_call 70; exact quiet_ws (patternKids_any _ _)))
 go_wp2_with (fail)
 all_goals
  go_returns
  exact ⟨rfl, bl⟩
set_option maxHeartbeats 1000000 in
theorem validPattern_kids (op : Int) (t : ByteArray) (n lo hi vars : Int) (ks : List TPattern) (A : Option Addr) (c : Nat) (S : Nat → Prop) (w : World) (h1 : 1 ≤ op) (h2 : op ≤ 23) (hm : ¬ ks.length = kidsN op) (hc : c ≤ maxLen) (hlc : ks.length ≤ c) (hvr : 0 ≤ vars ∧ vars ≤ 24) :
  Calls Try.prog 57 #[.agg #[.int .i64 op, .string t, .int .i64 n, .int .i64 lo, .int .i64 hi, .slice A ks.length c], .int .i64 vars] w fun e w' => e = .returned (.bool false) ∧ Bel w w' := by
 unfold maxLen at hc
 have f1 : decide (op < 1) = false := by simp; omega
 have f2 : decide (23 < op) = false := by simp; omega
 have hkn : (((ks.length : Nat) : Int) != ((kidsN op : Nat) : Int)) = true := by simp; omega
 have HM := hide hm
 clear hm
 go_enter Try.func57, Try.ntmps57
 go_wp2_with (fail)
 go_quiet ((go_at_call 70; exact quiet_ws (patternKids_any _ _)))
 go_wp2_with (fail)
 all_goals
  go_returns
  exact ⟨rfl, bl⟩
set_option maxHeartbeats 1000000 in
theorem validPattern_t1 (op : Int) (t : ByteArray) (n lo hi vars : Int) (ks : List TPattern) (A : Option Addr) (c : Nat) (S : Nat → Prop) (w : World) (hg : op = 1) (hm : ks.length = kidsN op) (ht0 : 120 < t.size) (hc : c ≤ maxLen) (hlc : ks.length ≤ c) (hvr : 0 ≤ vars ∧ vars ≤ 24) :
  Calls Try.prog 57 #[.agg #[.int .i64 op, .string t, .int .i64 n, .int .i64 lo, .int .i64 hi, .slice A ks.length c], .int .i64 vars] w fun e w' => e = .returned (.bool false) ∧ Bel w w' := by
 unfold maxLen at hc
 subst hg
 have hkn : (((ks.length : Nat) : Int) != ((kidsN 1 : Nat) : Int)) = false := by simp; omega
 have HM := hide hm
 clear hm
 have hlen : decide ((120 : Int) < (t.size : Int)) = true := by simp; omega
 have hlen2 : decide ((t.size : Int) ≤ 120) = false := by simp; omega
 go_enter Try.func57, Try.ntmps57
 go_wp2_with (fail)
 go_quiet ((go_at_call 70; exact quiet_ws (patternKids_any _ _)))
 go_wp2_with (fail)
 all_goals
  go_returns
  exact ⟨rfl, bl⟩
set_option maxHeartbeats 1000000 in
theorem validPattern_sa1 (op : Int) (t : ByteArray) (n lo hi vars : Int) (ks : List TPattern) (A : Option Addr) (c : Nat) (S : Nat → Prop) (w : World) (hg : op = 1) (hm : ks.length = kidsN op) (ht0 : t.size ≤ 120) (hs : ¬ lo = 0) (hc : c ≤ maxLen) (hlc : ks.length ≤ c) (hvr : 0 ≤ vars ∧ vars ≤ 24) :
  Calls Try.prog 57 #[.agg #[.int .i64 op, .string t, .int .i64 n, .int .i64 lo, .int .i64 hi, .slice A ks.length c], .int .i64 vars] w fun e w' => e = .returned (.bool false) ∧ Bel w w' := by
 unfold maxLen at hc
 subst hg
 have hkn : (((ks.length : Nat) : Int) != ((kidsN 1 : Nat) : Int)) = false := by simp; omega
 have HM := hide hm
 clear hm
 have hlen : decide ((120 : Int) < (t.size : Int)) = false := by simp; omega
 have hlen2 : decide ((t.size : Int) ≤ 120) = true := by simp; omega
 go_enter Try.func57, Try.ntmps57
 go_wp2_with (fail)
 go_quiet ((go_at_call 70; exact quiet_ws (patternKids_any _ _)))
 go_wp2_with (fail)
 all_goals
  go_returns
  exact ⟨rfl, bl⟩
set_option maxHeartbeats 1000000 in
theorem validPattern_sb1 (op : Int) (t : ByteArray) (n lo hi vars : Int) (ks : List TPattern) (A : Option Addr) (c : Nat) (S : Nat → Prop) (w : World) (hg : op = 1) (hm : ks.length = kidsN op) (ht0 : t.size ≤ 120) (hz : lo = 0) (hs : ¬ hi = 0) (hc : c ≤ maxLen) (hlc : ks.length ≤ c) (hvr : 0 ≤ vars ∧ vars ≤ 24) :
  Calls Try.prog 57 #[.agg #[.int .i64 op, .string t, .int .i64 n, .int .i64 lo, .int .i64 hi, .slice A ks.length c], .int .i64 vars] w fun e w' => e = .returned (.bool false) ∧ Bel w w' := by
 unfold maxLen at hc
 subst hg
 have hkn : (((ks.length : Nat) : Int) != ((kidsN 1 : Nat) : Int)) = false := by simp; omega
 have HM := hide hm
 clear hm
 have hlen : decide ((120 : Int) < (t.size : Int)) = false := by simp; omega
 have hlen2 : decide ((t.size : Int) ≤ 120) = true := by simp; omega
 subst hz
 go_enter Try.func57, Try.ntmps57
 go_wp2_with (fail)
 go_quiet ((go_at_call 70; exact quiet_ws (patternKids_any _ _)))
 go_wp2_with (fail)
 all_goals
  go_returns
  exact ⟨rfl, bl⟩
set_option maxHeartbeats 1000000 in
theorem validPattern_n1 (op : Int) (t : ByteArray) (n lo hi vars : Int) (ks : List TPattern) (A : Option Addr) (c : Nat) (S : Nat → Prop) (w : World) (hg : op = 1) (hm : ks.length = kidsN op) (ht0 : t.size ≤ 120) (hs : lo = 0 ∧ hi = 0) (hn : ¬ n = 0) (hc : c ≤ maxLen) (hlc : ks.length ≤ c) (hvr : 0 ≤ vars ∧ vars ≤ 24) :
  Calls Try.prog 57 #[.agg #[.int .i64 op, .string t, .int .i64 n, .int .i64 lo, .int .i64 hi, .slice A ks.length c], .int .i64 vars] w fun e w' => e = .returned (.bool false) ∧ Bel w w' := by
 unfold maxLen at hc
 subst hg
 have hkn : (((ks.length : Nat) : Int) != ((kidsN 1 : Nat) : Int)) = false := by simp; omega
 have HM := hide hm
 clear hm
 have hlen : decide ((120 : Int) < (t.size : Int)) = false := by simp; omega
 have hlen2 : decide ((t.size : Int) ≤ 120) = true := by simp; omega
 obtain ⟨rfl, rfl⟩ := hs
 go_enter Try.func57, Try.ntmps57
 go_wp2_with (fail)
 go_quiet ((go_at_call 70; exact quiet_ws (patternKids_any _ _)))
 go_wp2_with (fail)
 all_goals
  go_returns
  exact ⟨rfl, bl⟩
set_option maxHeartbeats 1000000 in
theorem validPattern_t2 (op : Int) (t : ByteArray) (n lo hi vars : Int) (ks : List TPattern) (A : Option Addr) (c : Nat) (S : Nat → Prop) (w : World) (hg : 2 ≤ op ∧ op ≤ 6) (hm : ks.length = kidsN op) (ht0 : ¬ t.size = 0) (hc : c ≤ maxLen) (hlc : ks.length ≤ c) (hvr : 0 ≤ vars ∧ vars ≤ 24) :
  Calls Try.prog 57 #[.agg #[.int .i64 op, .string t, .int .i64 n, .int .i64 lo, .int .i64 hi, .slice A ks.length c], .int .i64 vars] w fun e w' => e = .returned (.bool false) ∧ Bel w w' := by
 unfold maxLen at hc
 have f0 : decide (op < 1) = false := by simp; omega
 have f1 : decide (23 < op) = false := by simp; omega
 have f2 : decide (op < 7) = true := by simp; omega
 have f3 : decide (10 < op) = false := by simp; omega
 have f4 : decide (2 ≤ op) = true := by simp; omega
 have f5 : decide (op ≤ 6) = true := by simp; omega
 have f6 : decide (7 ≤ op) = false := by simp; omega
 have e1 : (op != 1) = true := by simp; omega
 have e1' : ¬ op = 1 := by omega
 have e16 : ¬ op = 16 := by omega
 have b16 : (op == 16) = false := by simp; omega
 have e17 : ¬ op = 17 := by omega
 have b17 : (op == 17) = false := by simp; omega
 have e18 : ¬ op = 18 := by omega
 have b18 : (op == 18) = false := by simp; omega
 have e20 : ¬ op = 20 := by omega
 have b20 : (op == 20) = false := by simp; omega
 have b1 : (op == 1) = false := by simp; omega
 have hgo := hide hg
 have hkn : (((ks.length : Nat) : Int) != ((kidsN op : Nat) : Int)) = false := by simp; omega
 have HM := hide hm
 clear hm
 have hemp : t.toList.isEmpty = false := by have := fun e => ht0 (tlE.1 e); simpa using this
 have hemp1 : (!t.toList.isEmpty) = true := by rw [hemp]; rfl
 have H0 := hide ht0
 clear ht0
 go_enter Try.func57, Try.ntmps57
 go_wp2_with (fail)
 go_quiet ((go_at_call 70; exact quiet_ws (patternKids_any _ _)))
 go_wp2_with (fail)
 all_goals
  go_returns
  exact ⟨rfl, bl⟩
set_option maxHeartbeats 1000000 in
theorem validPattern_sa2 (op : Int) (t : ByteArray) (n lo hi vars : Int) (ks : List TPattern) (A : Option Addr) (c : Nat) (S : Nat → Prop) (w : World) (hg : 2 ≤ op ∧ op ≤ 6) (hm : ks.length = kidsN op) (ht0 : t.size = 0) (hs : ¬ lo = 0) (hc : c ≤ maxLen) (hlc : ks.length ≤ c) (hvr : 0 ≤ vars ∧ vars ≤ 24) :
  Calls Try.prog 57 #[.agg #[.int .i64 op, .string t, .int .i64 n, .int .i64 lo, .int .i64 hi, .slice A ks.length c], .int .i64 vars] w fun e w' => e = .returned (.bool false) ∧ Bel w w' := by
 unfold maxLen at hc
 have f0 : decide (op < 1) = false := by simp; omega
 have f1 : decide (23 < op) = false := by simp; omega
 have f2 : decide (op < 7) = true := by simp; omega
 have f3 : decide (10 < op) = false := by simp; omega
 have f4 : decide (2 ≤ op) = true := by simp; omega
 have f5 : decide (op ≤ 6) = true := by simp; omega
 have f6 : decide (7 ≤ op) = false := by simp; omega
 have e1 : (op != 1) = true := by simp; omega
 have e1' : ¬ op = 1 := by omega
 have e16 : ¬ op = 16 := by omega
 have b16 : (op == 16) = false := by simp; omega
 have e17 : ¬ op = 17 := by omega
 have b17 : (op == 17) = false := by simp; omega
 have e18 : ¬ op = 18 := by omega
 have b18 : (op == 18) = false := by simp; omega
 have e20 : ¬ op = 20 := by omega
 have b20 : (op == 20) = false := by simp; omega
 have b1 : (op == 1) = false := by simp; omega
 have hgo := hide hg
 have hkn : (((ks.length : Nat) : Int) != ((kidsN op : Nat) : Int)) = false := by simp; omega
 have HM := hide hm
 clear hm
 have hemp := tlE.2 ht0
 have hemp1 : (!t.toList.isEmpty) = false := by rw [hemp]; rfl
 have hlen : decide ((120 : Int) < (t.size : Int)) = false := by simp; omega
 have hlen2 : decide ((t.size : Int) ≤ 120) = true := by simp; omega
 have H0 := hide ht0
 clear ht0
 go_enter Try.func57, Try.ntmps57
 go_wp2_with (fail)
 go_quiet ((go_at_call 70; exact quiet_ws (patternKids_any _ _)))
 go_wp2_with (fail)
 all_goals
  go_returns
  exact ⟨rfl, bl⟩
set_option maxHeartbeats 1000000 in
theorem validPattern_sb2 (op : Int) (t : ByteArray) (n lo hi vars : Int) (ks : List TPattern) (A : Option Addr) (c : Nat) (S : Nat → Prop) (w : World) (hg : 2 ≤ op ∧ op ≤ 6) (hm : ks.length = kidsN op) (ht0 : t.size = 0) (hz : lo = 0) (hs : ¬ hi = 0) (hc : c ≤ maxLen) (hlc : ks.length ≤ c) (hvr : 0 ≤ vars ∧ vars ≤ 24) :
  Calls Try.prog 57 #[.agg #[.int .i64 op, .string t, .int .i64 n, .int .i64 lo, .int .i64 hi, .slice A ks.length c], .int .i64 vars] w fun e w' => e = .returned (.bool false) ∧ Bel w w' := by
 unfold maxLen at hc
 have f0 : decide (op < 1) = false := by simp; omega
 have f1 : decide (23 < op) = false := by simp; omega
 have f2 : decide (op < 7) = true := by simp; omega
 have f3 : decide (10 < op) = false := by simp; omega
 have f4 : decide (2 ≤ op) = true := by simp; omega
 have f5 : decide (op ≤ 6) = true := by simp; omega
 have f6 : decide (7 ≤ op) = false := by simp; omega
 have e1 : (op != 1) = true := by simp; omega
 have e1' : ¬ op = 1 := by omega
 have e16 : ¬ op = 16 := by omega
 have b16 : (op == 16) = false := by simp; omega
 have e17 : ¬ op = 17 := by omega
 have b17 : (op == 17) = false := by simp; omega
 have e18 : ¬ op = 18 := by omega
 have b18 : (op == 18) = false := by simp; omega
 have e20 : ¬ op = 20 := by omega
 have b20 : (op == 20) = false := by simp; omega
 have b1 : (op == 1) = false := by simp; omega
 have hgo := hide hg
 have hkn : (((ks.length : Nat) : Int) != ((kidsN op : Nat) : Int)) = false := by simp; omega
 have HM := hide hm
 clear hm
 have hemp := tlE.2 ht0
 have hemp1 : (!t.toList.isEmpty) = false := by rw [hemp]; rfl
 have hlen : decide ((120 : Int) < (t.size : Int)) = false := by simp; omega
 have hlen2 : decide ((t.size : Int) ≤ 120) = true := by simp; omega
 have H0 := hide ht0
 clear ht0
 subst hz
 go_enter Try.func57, Try.ntmps57
 go_wp2_with (fail)
 go_quiet ((go_at_call 70; exact quiet_ws (patternKids_any _ _)))
 go_wp2_with (fail)
 all_goals
  go_returns
  exact ⟨rfl, bl⟩
set_option maxHeartbeats 1000000 in
theorem validPattern_na2 (op : Int) (t : ByteArray) (n lo hi vars : Int) (ks : List TPattern) (A : Option Addr) (c : Nat) (S : Nat → Prop) (w : World) (hg : 2 ≤ op ∧ op ≤ 6) (hm : ks.length = kidsN op) (ht0 : t.size = 0) (hs : lo = 0 ∧ hi = 0) (hn : n < 0) (hc : c ≤ maxLen) (hlc : ks.length ≤ c) (hvr : 0 ≤ vars ∧ vars ≤ 24) :
  Calls Try.prog 57 #[.agg #[.int .i64 op, .string t, .int .i64 n, .int .i64 lo, .int .i64 hi, .slice A ks.length c], .int .i64 vars] w fun e w' => e = .returned (.bool false) ∧ Bel w w' := by
 unfold maxLen at hc
 have f0 : decide (op < 1) = false := by simp; omega
 have f1 : decide (23 < op) = false := by simp; omega
 have f2 : decide (op < 7) = true := by simp; omega
 have f3 : decide (10 < op) = false := by simp; omega
 have f4 : decide (2 ≤ op) = true := by simp; omega
 have f5 : decide (op ≤ 6) = true := by simp; omega
 have f6 : decide (7 ≤ op) = false := by simp; omega
 have e1 : (op != 1) = true := by simp; omega
 have e1' : ¬ op = 1 := by omega
 have e16 : ¬ op = 16 := by omega
 have b16 : (op == 16) = false := by simp; omega
 have e17 : ¬ op = 17 := by omega
 have b17 : (op == 17) = false := by simp; omega
 have e18 : ¬ op = 18 := by omega
 have b18 : (op == 18) = false := by simp; omega
 have e20 : ¬ op = 20 := by omega
 have b20 : (op == 20) = false := by simp; omega
 have b1 : (op == 1) = false := by simp; omega
 have hgo := hide hg
 have hkn : (((ks.length : Nat) : Int) != ((kidsN op : Nat) : Int)) = false := by simp; omega
 have HM := hide hm
 clear hm
 have hemp := tlE.2 ht0
 have hemp1 : (!t.toList.isEmpty) = false := by rw [hemp]; rfl
 have hlen : decide ((120 : Int) < (t.size : Int)) = false := by simp; omega
 have hlen2 : decide ((t.size : Int) ≤ 120) = true := by simp; omega
 have H0 := hide ht0
 clear ht0
 obtain ⟨rfl, rfl⟩ := hs
 have q1 : decide (0 ≤ n) = false := by simp; omega
 go_enter Try.func57, Try.ntmps57
 go_wp2_with (fail)
 go_quiet ((go_at_call 70; exact quiet_ws (patternKids_any _ _)))
 go_wp2_with (fail)
 all_goals
  go_returns
  exact ⟨rfl, bl⟩
set_option maxHeartbeats 1000000 in
theorem validPattern_nb2 (op : Int) (t : ByteArray) (n lo hi vars : Int) (ks : List TPattern) (A : Option Addr) (c : Nat) (S : Nat → Prop) (w : World) (hg : 2 ≤ op ∧ op ≤ 6) (hm : ks.length = kidsN op) (ht0 : t.size = 0) (hs : lo = 0 ∧ hi = 0) (hn0 : 0 ≤ n) (hn : ¬ n ≤ 120) (hc : c ≤ maxLen) (hlc : ks.length ≤ c) (hvr : 0 ≤ vars ∧ vars ≤ 24) :
  Calls Try.prog 57 #[.agg #[.int .i64 op, .string t, .int .i64 n, .int .i64 lo, .int .i64 hi, .slice A ks.length c], .int .i64 vars] w fun e w' => e = .returned (.bool false) ∧ Bel w w' := by
 unfold maxLen at hc
 have f0 : decide (op < 1) = false := by simp; omega
 have f1 : decide (23 < op) = false := by simp; omega
 have f2 : decide (op < 7) = true := by simp; omega
 have f3 : decide (10 < op) = false := by simp; omega
 have f4 : decide (2 ≤ op) = true := by simp; omega
 have f5 : decide (op ≤ 6) = true := by simp; omega
 have f6 : decide (7 ≤ op) = false := by simp; omega
 have e1 : (op != 1) = true := by simp; omega
 have e1' : ¬ op = 1 := by omega
 have e16 : ¬ op = 16 := by omega
 have b16 : (op == 16) = false := by simp; omega
 have e17 : ¬ op = 17 := by omega
 have b17 : (op == 17) = false := by simp; omega
 have e18 : ¬ op = 18 := by omega
 have b18 : (op == 18) = false := by simp; omega
 have e20 : ¬ op = 20 := by omega
 have b20 : (op == 20) = false := by simp; omega
 have b1 : (op == 1) = false := by simp; omega
 have hgo := hide hg
 have hkn : (((ks.length : Nat) : Int) != ((kidsN op : Nat) : Int)) = false := by simp; omega
 have HM := hide hm
 clear hm
 have hemp := tlE.2 ht0
 have hemp1 : (!t.toList.isEmpty) = false := by rw [hemp]; rfl
 have hlen : decide ((120 : Int) < (t.size : Int)) = false := by simp; omega
 have hlen2 : decide ((t.size : Int) ≤ 120) = true := by simp; omega
 have H0 := hide ht0
 clear ht0
 obtain ⟨rfl, rfl⟩ := hs
 have q1 : decide (0 ≤ n) = true := by simp; omega
 have q2 : decide (n ≤ 120) = false := by simp; omega
 go_enter Try.func57, Try.ntmps57
 go_wp2_with (fail)
 go_quiet ((go_at_call 70; exact quiet_ws (patternKids_any _ _)))
 go_wp2_with (fail)
 all_goals
  go_returns
  exact ⟨rfl, bl⟩
set_option maxHeartbeats 1000000 in
theorem validPattern_t7 (op : Int) (t : ByteArray) (n lo hi vars : Int) (ks : List TPattern) (A : Option Addr) (c : Nat) (S : Nat → Prop) (w : World) (hg : 7 ≤ op ∧ op ≤ 10) (hm : ks.length = kidsN op) (ht0 : ¬ t.size = 0) (hc : c ≤ maxLen) (hlc : ks.length ≤ c) (hvr : 0 ≤ vars ∧ vars ≤ 24) :
  Calls Try.prog 57 #[.agg #[.int .i64 op, .string t, .int .i64 n, .int .i64 lo, .int .i64 hi, .slice A ks.length c], .int .i64 vars] w fun e w' => e = .returned (.bool false) ∧ Bel w w' := by
 unfold maxLen at hc
 have f0 : decide (op < 1) = false := by simp; omega
 have f1 : decide (23 < op) = false := by simp; omega
 have f2 : decide (op < 7) = false := by simp; omega
 have f3 : decide (10 < op) = false := by simp; omega
 have f4 : decide (2 ≤ op) = true := by simp; omega
 have f5 : decide (op ≤ 6) = false := by simp; omega
 have f6 : decide (7 ≤ op) = true := by simp; omega
 have f7 : decide (op ≤ 10) = true := by simp; omega
 have f8 : decide (16 ≤ op) = false := by simp; omega
 have e1 : (op != 1) = true := by simp; omega
 have e1' : ¬ op = 1 := by omega
 have e16 : ¬ op = 16 := by omega
 have b16 : (op == 16) = false := by simp; omega
 have e17 : ¬ op = 17 := by omega
 have b17 : (op == 17) = false := by simp; omega
 have e18 : ¬ op = 18 := by omega
 have b18 : (op == 18) = false := by simp; omega
 have e20 : ¬ op = 20 := by omega
 have b20 : (op == 20) = false := by simp; omega
 have b1 : (op == 1) = false := by simp; omega
 have hgo := hide hg
 have hkn : (((ks.length : Nat) : Int) != ((kidsN op : Nat) : Int)) = false := by simp; omega
 have HM := hide hm
 clear hm
 have hemp : t.toList.isEmpty = false := by have := fun e => ht0 (tlE.1 e); simpa using this
 have hemp1 : (!t.toList.isEmpty) = true := by rw [hemp]; rfl
 have H0 := hide ht0
 clear ht0
 go_enter Try.func57, Try.ntmps57
 go_wp2_with (fail)
 go_quiet ((go_at_call 70; exact quiet_ws (patternKids_any _ _)))
 go_wp2_with (fail)
 all_goals
  go_returns
  exact ⟨rfl, bl⟩
set_option maxHeartbeats 1000000 in
theorem validPattern_n7 (op : Int) (t : ByteArray) (n lo hi vars : Int) (ks : List TPattern) (A : Option Addr) (c : Nat) (S : Nat → Prop) (w : World) (hg : 7 ≤ op ∧ op ≤ 10) (hm : ks.length = kidsN op) (ht0 : t.size = 0) (hn : ¬ n = 0) (hc : c ≤ maxLen) (hlc : ks.length ≤ c) (hvr : 0 ≤ vars ∧ vars ≤ 24) :
  Calls Try.prog 57 #[.agg #[.int .i64 op, .string t, .int .i64 n, .int .i64 lo, .int .i64 hi, .slice A ks.length c], .int .i64 vars] w fun e w' => e = .returned (.bool false) ∧ Bel w w' := by
 unfold maxLen at hc
 have f0 : decide (op < 1) = false := by simp; omega
 have f1 : decide (23 < op) = false := by simp; omega
 have f2 : decide (op < 7) = false := by simp; omega
 have f3 : decide (10 < op) = false := by simp; omega
 have f4 : decide (2 ≤ op) = true := by simp; omega
 have f5 : decide (op ≤ 6) = false := by simp; omega
 have f6 : decide (7 ≤ op) = true := by simp; omega
 have f7 : decide (op ≤ 10) = true := by simp; omega
 have f8 : decide (16 ≤ op) = false := by simp; omega
 have e1 : (op != 1) = true := by simp; omega
 have e1' : ¬ op = 1 := by omega
 have e16 : ¬ op = 16 := by omega
 have b16 : (op == 16) = false := by simp; omega
 have e17 : ¬ op = 17 := by omega
 have b17 : (op == 17) = false := by simp; omega
 have e18 : ¬ op = 18 := by omega
 have b18 : (op == 18) = false := by simp; omega
 have e20 : ¬ op = 20 := by omega
 have b20 : (op == 20) = false := by simp; omega
 have b1 : (op == 1) = false := by simp; omega
 have hgo := hide hg
 have hkn : (((ks.length : Nat) : Int) != ((kidsN op : Nat) : Int)) = false := by simp; omega
 have HM := hide hm
 clear hm
 have hemp := tlE.2 ht0
 have hemp1 : (!t.toList.isEmpty) = false := by rw [hemp]; rfl
 have hlen : decide ((120 : Int) < (t.size : Int)) = false := by simp; omega
 have hlen2 : decide ((t.size : Int) ≤ 120) = true := by simp; omega
 have H0 := hide ht0
 clear ht0
 go_enter Try.func57, Try.ntmps57
 go_wp2_with (fail)
 go_quiet ((go_at_call 70; exact quiet_ws (patternKids_any _ _)))
 go_wp2_with (fail)
 all_goals
  go_returns
  exact ⟨rfl, bl⟩
set_option maxHeartbeats 1000000 in
theorem validPattern_t16 (op : Int) (t : ByteArray) (n lo hi vars : Int) (ks : List TPattern) (A : Option Addr) (c : Nat) (S : Nat → Prop) (w : World) (hg : op = 16) (hm : ks.length = kidsN op) (ht0 : ¬ t.size = 0) (hc : c ≤ maxLen) (hlc : ks.length ≤ c) (hvr : 0 ≤ vars ∧ vars ≤ 24) :
  Calls Try.prog 57 #[.agg #[.int .i64 op, .string t, .int .i64 n, .int .i64 lo, .int .i64 hi, .slice A ks.length c], .int .i64 vars] w fun e w' => e = .returned (.bool false) ∧ Bel w w' := by
 unfold maxLen at hc
 subst hg
 have hkn : (((ks.length : Nat) : Int) != ((kidsN 16 : Nat) : Int)) = false := by simp; omega
 have HM := hide hm
 clear hm
 have hemp : t.toList.isEmpty = false := by have := fun e => ht0 (tlE.1 e); simpa using this
 have hemp1 : (!t.toList.isEmpty) = true := by rw [hemp]; rfl
 have H0 := hide ht0
 clear ht0
 go_enter Try.func57, Try.ntmps57
 go_wp2_with (fail)
 go_quiet ((go_at_call 70; exact quiet_ws (patternKids_any _ _)))
 go_wp2_with (fail)
 all_goals
  go_returns
  exact ⟨rfl, bl⟩
set_option maxHeartbeats 1000000 in
theorem validPattern_sa16 (op : Int) (t : ByteArray) (n lo hi vars : Int) (ks : List TPattern) (A : Option Addr) (c : Nat) (S : Nat → Prop) (w : World) (hg : op = 16) (hm : ks.length = kidsN op) (ht0 : t.size = 0) (hs : ¬ lo = 0) (hc : c ≤ maxLen) (hlc : ks.length ≤ c) (hvr : 0 ≤ vars ∧ vars ≤ 24) :
  Calls Try.prog 57 #[.agg #[.int .i64 op, .string t, .int .i64 n, .int .i64 lo, .int .i64 hi, .slice A ks.length c], .int .i64 vars] w fun e w' => e = .returned (.bool false) ∧ Bel w w' := by
 unfold maxLen at hc
 subst hg
 have hkn : (((ks.length : Nat) : Int) != ((kidsN 16 : Nat) : Int)) = false := by simp; omega
 have HM := hide hm
 clear hm
 have hemp := tlE.2 ht0
 have hemp1 : (!t.toList.isEmpty) = false := by rw [hemp]; rfl
 have hlen : decide ((120 : Int) < (t.size : Int)) = false := by simp; omega
 have hlen2 : decide ((t.size : Int) ≤ 120) = true := by simp; omega
 have H0 := hide ht0
 clear ht0
 go_enter Try.func57, Try.ntmps57
 go_wp2_with (fail)
 go_quiet ((go_at_call 70; exact quiet_ws (patternKids_any _ _)))
 go_wp2_with (fail)
 all_goals
  go_returns
  exact ⟨rfl, bl⟩
set_option maxHeartbeats 1000000 in
theorem validPattern_sb16 (op : Int) (t : ByteArray) (n lo hi vars : Int) (ks : List TPattern) (A : Option Addr) (c : Nat) (S : Nat → Prop) (w : World) (hg : op = 16) (hm : ks.length = kidsN op) (ht0 : t.size = 0) (hz : lo = 0) (hs : ¬ hi = 0) (hc : c ≤ maxLen) (hlc : ks.length ≤ c) (hvr : 0 ≤ vars ∧ vars ≤ 24) :
  Calls Try.prog 57 #[.agg #[.int .i64 op, .string t, .int .i64 n, .int .i64 lo, .int .i64 hi, .slice A ks.length c], .int .i64 vars] w fun e w' => e = .returned (.bool false) ∧ Bel w w' := by
 unfold maxLen at hc
 subst hg
 have hkn : (((ks.length : Nat) : Int) != ((kidsN 16 : Nat) : Int)) = false := by simp; omega
 have HM := hide hm
 clear hm
 have hemp := tlE.2 ht0
 have hemp1 : (!t.toList.isEmpty) = false := by rw [hemp]; rfl
 have hlen : decide ((120 : Int) < (t.size : Int)) = false := by simp; omega
 have hlen2 : decide ((t.size : Int) ≤ 120) = true := by simp; omega
 have H0 := hide ht0
 clear ht0
 subst hz
 go_enter Try.func57, Try.ntmps57
 go_wp2_with (fail)
 go_quiet ((go_at_call 70; exact quiet_ws (patternKids_any _ _)))
 go_wp2_with (fail)
 all_goals
  go_returns
  exact ⟨rfl, bl⟩
set_option maxHeartbeats 1000000 in
theorem validPattern_na16 (op : Int) (t : ByteArray) (n lo hi vars : Int) (ks : List TPattern) (A : Option Addr) (c : Nat) (S : Nat → Prop) (w : World) (hg : op = 16) (hm : ks.length = kidsN op) (ht0 : t.size = 0) (hs : lo = 0 ∧ hi = 0) (hn : n < 0) (hc : c ≤ maxLen) (hlc : ks.length ≤ c) (hvr : 0 ≤ vars ∧ vars ≤ 24) :
  Calls Try.prog 57 #[.agg #[.int .i64 op, .string t, .int .i64 n, .int .i64 lo, .int .i64 hi, .slice A ks.length c], .int .i64 vars] w fun e w' => e = .returned (.bool false) ∧ Bel w w' := by
 unfold maxLen at hc
 subst hg
 have hkn : (((ks.length : Nat) : Int) != ((kidsN 16 : Nat) : Int)) = false := by simp; omega
 have HM := hide hm
 clear hm
 have hemp := tlE.2 ht0
 have hemp1 : (!t.toList.isEmpty) = false := by rw [hemp]; rfl
 have hlen : decide ((120 : Int) < (t.size : Int)) = false := by simp; omega
 have hlen2 : decide ((t.size : Int) ≤ 120) = true := by simp; omega
 have H0 := hide ht0
 clear ht0
 obtain ⟨rfl, rfl⟩ := hs
 have q1 : decide (0 ≤ n) = false := by simp; omega
 go_enter Try.func57, Try.ntmps57
 go_wp2_with (fail)
 go_quiet ((go_at_call 70; exact quiet_ws (patternKids_any _ _)))
 go_wp2_with (fail)
 all_goals
  go_returns
  exact ⟨rfl, bl⟩
set_option maxHeartbeats 1000000 in
theorem validPattern_nb16 (op : Int) (t : ByteArray) (n lo hi vars : Int) (ks : List TPattern) (A : Option Addr) (c : Nat) (S : Nat → Prop) (w : World) (hg : op = 16) (hm : ks.length = kidsN op) (ht0 : t.size = 0) (hs : lo = 0 ∧ hi = 0) (hn0 : 0 ≤ n) (hn : ¬ n < vars) (hc : c ≤ maxLen) (hlc : ks.length ≤ c) (hvr : 0 ≤ vars ∧ vars ≤ 24) :
  Calls Try.prog 57 #[.agg #[.int .i64 op, .string t, .int .i64 n, .int .i64 lo, .int .i64 hi, .slice A ks.length c], .int .i64 vars] w fun e w' => e = .returned (.bool false) ∧ Bel w w' := by
 unfold maxLen at hc
 subst hg
 have hkn : (((ks.length : Nat) : Int) != ((kidsN 16 : Nat) : Int)) = false := by simp; omega
 have HM := hide hm
 clear hm
 have hemp := tlE.2 ht0
 have hemp1 : (!t.toList.isEmpty) = false := by rw [hemp]; rfl
 have hlen : decide ((120 : Int) < (t.size : Int)) = false := by simp; omega
 have hlen2 : decide ((t.size : Int) ≤ 120) = true := by simp; omega
 have H0 := hide ht0
 clear ht0
 obtain ⟨rfl, rfl⟩ := hs
 have q1 : decide (0 ≤ n) = true := by simp; omega
 have q2 : decide (n < vars) = false := by simp; omega
 go_enter Try.func57, Try.ntmps57
 go_wp2_with (fail)
 go_quiet ((go_at_call 70; exact quiet_ws (patternKids_any _ _)))
 go_wp2_with (fail)
 all_goals
  go_returns
  exact ⟨rfl, bl⟩
set_option maxHeartbeats 1000000 in
theorem validPattern_t17 (op : Int) (t : ByteArray) (n lo hi vars : Int) (ks : List TPattern) (A : Option Addr) (c : Nat) (S : Nat → Prop) (w : World) (hg : op = 17) (hm : ks.length = kidsN op) (ht0 : ¬ t.size = 0) (hc : c ≤ maxLen) (hlc : ks.length ≤ c) (hvr : 0 ≤ vars ∧ vars ≤ 24) :
  Calls Try.prog 57 #[.agg #[.int .i64 op, .string t, .int .i64 n, .int .i64 lo, .int .i64 hi, .slice A ks.length c], .int .i64 vars] w fun e w' => e = .returned (.bool false) ∧ Bel w w' := by
 unfold maxLen at hc
 subst hg
 have hkn : (((ks.length : Nat) : Int) != ((kidsN 17 : Nat) : Int)) = false := by simp; omega
 have HM := hide hm
 clear hm
 have hemp : t.toList.isEmpty = false := by have := fun e => ht0 (tlE.1 e); simpa using this
 have hemp1 : (!t.toList.isEmpty) = true := by rw [hemp]; rfl
 have H0 := hide ht0
 clear ht0
 go_enter Try.func57, Try.ntmps57
 go_wp2_with (fail)
 go_quiet ((go_at_call 70; exact quiet_ws (patternKids_any _ _)))
 go_wp2_with (fail)
 all_goals
  go_returns
  exact ⟨rfl, bl⟩
set_option maxHeartbeats 1000000 in
theorem validPattern_sa17 (op : Int) (t : ByteArray) (n lo hi vars : Int) (ks : List TPattern) (A : Option Addr) (c : Nat) (S : Nat → Prop) (w : World) (hg : op = 17) (hm : ks.length = kidsN op) (ht0 : t.size = 0) (hs : ¬ lo = 0) (hc : c ≤ maxLen) (hlc : ks.length ≤ c) (hvr : 0 ≤ vars ∧ vars ≤ 24) :
  Calls Try.prog 57 #[.agg #[.int .i64 op, .string t, .int .i64 n, .int .i64 lo, .int .i64 hi, .slice A ks.length c], .int .i64 vars] w fun e w' => e = .returned (.bool false) ∧ Bel w w' := by
 unfold maxLen at hc
 subst hg
 have hkn : (((ks.length : Nat) : Int) != ((kidsN 17 : Nat) : Int)) = false := by simp; omega
 have HM := hide hm
 clear hm
 have hemp := tlE.2 ht0
 have hemp1 : (!t.toList.isEmpty) = false := by rw [hemp]; rfl
 have hlen : decide ((120 : Int) < (t.size : Int)) = false := by simp; omega
 have hlen2 : decide ((t.size : Int) ≤ 120) = true := by simp; omega
 have H0 := hide ht0
 clear ht0
 go_enter Try.func57, Try.ntmps57
 go_wp2_with (fail)
 go_quiet ((go_at_call 70; exact quiet_ws (patternKids_any _ _)))
 go_wp2_with (fail)
 all_goals
  go_returns
  exact ⟨rfl, bl⟩
set_option maxHeartbeats 1000000 in
theorem validPattern_sb17 (op : Int) (t : ByteArray) (n lo hi vars : Int) (ks : List TPattern) (A : Option Addr) (c : Nat) (S : Nat → Prop) (w : World) (hg : op = 17) (hm : ks.length = kidsN op) (ht0 : t.size = 0) (hz : lo = 0) (hs : ¬ hi = 0) (hc : c ≤ maxLen) (hlc : ks.length ≤ c) (hvr : 0 ≤ vars ∧ vars ≤ 24) :
  Calls Try.prog 57 #[.agg #[.int .i64 op, .string t, .int .i64 n, .int .i64 lo, .int .i64 hi, .slice A ks.length c], .int .i64 vars] w fun e w' => e = .returned (.bool false) ∧ Bel w w' := by
 unfold maxLen at hc
 subst hg
 have hkn : (((ks.length : Nat) : Int) != ((kidsN 17 : Nat) : Int)) = false := by simp; omega
 have HM := hide hm
 clear hm
 have hemp := tlE.2 ht0
 have hemp1 : (!t.toList.isEmpty) = false := by rw [hemp]; rfl
 have hlen : decide ((120 : Int) < (t.size : Int)) = false := by simp; omega
 have hlen2 : decide ((t.size : Int) ≤ 120) = true := by simp; omega
 have H0 := hide ht0
 clear ht0
 subst hz
 go_enter Try.func57, Try.ntmps57
 go_wp2_with (fail)
 go_quiet ((go_at_call 70; exact quiet_ws (patternKids_any _ _)))
 go_wp2_with (fail)
 all_goals
  go_returns
  exact ⟨rfl, bl⟩
set_option maxHeartbeats 1000000 in
theorem validPattern_na17 (op : Int) (t : ByteArray) (n lo hi vars : Int) (ks : List TPattern) (A : Option Addr) (c : Nat) (S : Nat → Prop) (w : World) (hg : op = 17) (hm : ks.length = kidsN op) (ht0 : t.size = 0) (hs : lo = 0 ∧ hi = 0) (hn : n < 0) (hc : c ≤ maxLen) (hlc : ks.length ≤ c) (hvr : 0 ≤ vars ∧ vars ≤ 24) :
  Calls Try.prog 57 #[.agg #[.int .i64 op, .string t, .int .i64 n, .int .i64 lo, .int .i64 hi, .slice A ks.length c], .int .i64 vars] w fun e w' => e = .returned (.bool false) ∧ Bel w w' := by
 unfold maxLen at hc
 subst hg
 have hkn : (((ks.length : Nat) : Int) != ((kidsN 17 : Nat) : Int)) = false := by simp; omega
 have HM := hide hm
 clear hm
 have hemp := tlE.2 ht0
 have hemp1 : (!t.toList.isEmpty) = false := by rw [hemp]; rfl
 have hlen : decide ((120 : Int) < (t.size : Int)) = false := by simp; omega
 have hlen2 : decide ((t.size : Int) ≤ 120) = true := by simp; omega
 have H0 := hide ht0
 clear ht0
 obtain ⟨rfl, rfl⟩ := hs
 have q1 : decide (0 ≤ n) = false := by simp; omega
 go_enter Try.func57, Try.ntmps57
 go_wp2_with (fail)
 go_quiet ((go_at_call 70; exact quiet_ws (patternKids_any _ _)))
 go_wp2_with (fail)
 all_goals
  go_returns
  exact ⟨rfl, bl⟩
set_option maxHeartbeats 1000000 in
theorem validPattern_nb17 (op : Int) (t : ByteArray) (n lo hi vars : Int) (ks : List TPattern) (A : Option Addr) (c : Nat) (S : Nat → Prop) (w : World) (hg : op = 17) (hm : ks.length = kidsN op) (ht0 : t.size = 0) (hs : lo = 0 ∧ hi = 0) (hn0 : 0 ≤ n) (hn : ¬ n < vars) (hc : c ≤ maxLen) (hlc : ks.length ≤ c) (hvr : 0 ≤ vars ∧ vars ≤ 24) :
  Calls Try.prog 57 #[.agg #[.int .i64 op, .string t, .int .i64 n, .int .i64 lo, .int .i64 hi, .slice A ks.length c], .int .i64 vars] w fun e w' => e = .returned (.bool false) ∧ Bel w w' := by
 unfold maxLen at hc
 subst hg
 have hkn : (((ks.length : Nat) : Int) != ((kidsN 17 : Nat) : Int)) = false := by simp; omega
 have HM := hide hm
 clear hm
 have hemp := tlE.2 ht0
 have hemp1 : (!t.toList.isEmpty) = false := by rw [hemp]; rfl
 have hlen : decide ((120 : Int) < (t.size : Int)) = false := by simp; omega
 have hlen2 : decide ((t.size : Int) ≤ 120) = true := by simp; omega
 have H0 := hide ht0
 clear ht0
 obtain ⟨rfl, rfl⟩ := hs
 have q1 : decide (0 ≤ n) = true := by simp; omega
 have q2 : decide (n < vars) = false := by simp; omega
 go_enter Try.func57, Try.ntmps57
 go_wp2_with (fail)
 go_quiet ((go_at_call 70; exact quiet_ws (patternKids_any _ _)))
 go_wp2_with (fail)
 all_goals
  go_returns
  exact ⟨rfl, bl⟩
set_option maxHeartbeats 1000000 in
theorem validPattern_t18 (op : Int) (t : ByteArray) (n lo hi vars : Int) (ks : List TPattern) (A : Option Addr) (c : Nat) (S : Nat → Prop) (w : World) (hg : op = 18) (hm : ks.length = kidsN op) (ht0 : ¬ t.size = 0) (hc : c ≤ maxLen) (hlc : ks.length ≤ c) (hvr : 0 ≤ vars ∧ vars ≤ 24) :
  Calls Try.prog 57 #[.agg #[.int .i64 op, .string t, .int .i64 n, .int .i64 lo, .int .i64 hi, .slice A ks.length c], .int .i64 vars] w fun e w' => e = .returned (.bool false) ∧ Bel w w' := by
 unfold maxLen at hc
 subst hg
 have hkn : (((ks.length : Nat) : Int) != ((kidsN 18 : Nat) : Int)) = false := by simp; omega
 have HM := hide hm
 clear hm
 have hemp : t.toList.isEmpty = false := by have := fun e => ht0 (tlE.1 e); simpa using this
 have hemp1 : (!t.toList.isEmpty) = true := by rw [hemp]; rfl
 have H0 := hide ht0
 clear ht0
 go_enter Try.func57, Try.ntmps57
 go_wp2_with (fail)
 go_quiet ((go_at_call 70; exact quiet_ws (patternKids_any _ _)))
 go_wp2_with (fail)
 all_goals
  go_returns
  exact ⟨rfl, bl⟩
set_option maxHeartbeats 1000000 in
theorem validPattern_sa18 (op : Int) (t : ByteArray) (n lo hi vars : Int) (ks : List TPattern) (A : Option Addr) (c : Nat) (S : Nat → Prop) (w : World) (hg : op = 18) (hm : ks.length = kidsN op) (ht0 : t.size = 0) (hs : ¬ lo = 0) (hc : c ≤ maxLen) (hlc : ks.length ≤ c) (hvr : 0 ≤ vars ∧ vars ≤ 24) :
  Calls Try.prog 57 #[.agg #[.int .i64 op, .string t, .int .i64 n, .int .i64 lo, .int .i64 hi, .slice A ks.length c], .int .i64 vars] w fun e w' => e = .returned (.bool false) ∧ Bel w w' := by
 unfold maxLen at hc
 subst hg
 have hkn : (((ks.length : Nat) : Int) != ((kidsN 18 : Nat) : Int)) = false := by simp; omega
 have HM := hide hm
 clear hm
 have hemp := tlE.2 ht0
 have hemp1 : (!t.toList.isEmpty) = false := by rw [hemp]; rfl
 have hlen : decide ((120 : Int) < (t.size : Int)) = false := by simp; omega
 have hlen2 : decide ((t.size : Int) ≤ 120) = true := by simp; omega
 have H0 := hide ht0
 clear ht0
 go_enter Try.func57, Try.ntmps57
 go_wp2_with (fail)
 go_quiet ((go_at_call 70; exact quiet_ws (patternKids_any _ _)))
 go_wp2_with (fail)
 all_goals
  go_returns
  exact ⟨rfl, bl⟩
set_option maxHeartbeats 1000000 in
theorem validPattern_sb18 (op : Int) (t : ByteArray) (n lo hi vars : Int) (ks : List TPattern) (A : Option Addr) (c : Nat) (S : Nat → Prop) (w : World) (hg : op = 18) (hm : ks.length = kidsN op) (ht0 : t.size = 0) (hz : lo = 0) (hs : ¬ hi = 0) (hc : c ≤ maxLen) (hlc : ks.length ≤ c) (hvr : 0 ≤ vars ∧ vars ≤ 24) :
  Calls Try.prog 57 #[.agg #[.int .i64 op, .string t, .int .i64 n, .int .i64 lo, .int .i64 hi, .slice A ks.length c], .int .i64 vars] w fun e w' => e = .returned (.bool false) ∧ Bel w w' := by
 unfold maxLen at hc
 subst hg
 have hkn : (((ks.length : Nat) : Int) != ((kidsN 18 : Nat) : Int)) = false := by simp; omega
 have HM := hide hm
 clear hm
 have hemp := tlE.2 ht0
 have hemp1 : (!t.toList.isEmpty) = false := by rw [hemp]; rfl
 have hlen : decide ((120 : Int) < (t.size : Int)) = false := by simp; omega
 have hlen2 : decide ((t.size : Int) ≤ 120) = true := by simp; omega
 have H0 := hide ht0
 clear ht0
 subst hz
 go_enter Try.func57, Try.ntmps57
 go_wp2_with (fail)
 go_quiet ((go_at_call 70; exact quiet_ws (patternKids_any _ _)))
 go_wp2_with (fail)
 all_goals
  go_returns
  exact ⟨rfl, bl⟩
set_option maxHeartbeats 1000000 in
theorem validPattern_na18 (op : Int) (t : ByteArray) (n lo hi vars : Int) (ks : List TPattern) (A : Option Addr) (c : Nat) (S : Nat → Prop) (w : World) (hg : op = 18) (hm : ks.length = kidsN op) (ht0 : t.size = 0) (hs : lo = 0 ∧ hi = 0) (hn : n < 0) (hc : c ≤ maxLen) (hlc : ks.length ≤ c) (hvr : 0 ≤ vars ∧ vars ≤ 24) :
  Calls Try.prog 57 #[.agg #[.int .i64 op, .string t, .int .i64 n, .int .i64 lo, .int .i64 hi, .slice A ks.length c], .int .i64 vars] w fun e w' => e = .returned (.bool false) ∧ Bel w w' := by
 unfold maxLen at hc
 subst hg
 have hkn : (((ks.length : Nat) : Int) != ((kidsN 18 : Nat) : Int)) = false := by simp; omega
 have HM := hide hm
 clear hm
 have hemp := tlE.2 ht0
 have hemp1 : (!t.toList.isEmpty) = false := by rw [hemp]; rfl
 have hlen : decide ((120 : Int) < (t.size : Int)) = false := by simp; omega
 have hlen2 : decide ((t.size : Int) ≤ 120) = true := by simp; omega
 have H0 := hide ht0
 clear ht0
 obtain ⟨rfl, rfl⟩ := hs
 have q1 : decide (0 ≤ n) = false := by simp; omega
 go_enter Try.func57, Try.ntmps57
 go_wp2_with (fail)
 go_quiet ((go_at_call 70; exact quiet_ws (patternKids_any _ _)))
 go_wp2_with (fail)
 all_goals
  go_returns
  exact ⟨rfl, bl⟩
set_option maxHeartbeats 1000000 in
theorem validPattern_nb18 (op : Int) (t : ByteArray) (n lo hi vars : Int) (ks : List TPattern) (A : Option Addr) (c : Nat) (S : Nat → Prop) (w : World) (hg : op = 18) (hm : ks.length = kidsN op) (ht0 : t.size = 0) (hs : lo = 0 ∧ hi = 0) (hn0 : 0 ≤ n) (hn : ¬ n < vars) (hc : c ≤ maxLen) (hlc : ks.length ≤ c) (hvr : 0 ≤ vars ∧ vars ≤ 24) :
  Calls Try.prog 57 #[.agg #[.int .i64 op, .string t, .int .i64 n, .int .i64 lo, .int .i64 hi, .slice A ks.length c], .int .i64 vars] w fun e w' => e = .returned (.bool false) ∧ Bel w w' := by
 unfold maxLen at hc
 subst hg
 have hkn : (((ks.length : Nat) : Int) != ((kidsN 18 : Nat) : Int)) = false := by simp; omega
 have HM := hide hm
 clear hm
 have hemp := tlE.2 ht0
 have hemp1 : (!t.toList.isEmpty) = false := by rw [hemp]; rfl
 have hlen : decide ((120 : Int) < (t.size : Int)) = false := by simp; omega
 have hlen2 : decide ((t.size : Int) ≤ 120) = true := by simp; omega
 have H0 := hide ht0
 clear ht0
 obtain ⟨rfl, rfl⟩ := hs
 have q1 : decide (0 ≤ n) = true := by simp; omega
 have q2 : decide (n < vars) = false := by simp; omega
 go_enter Try.func57, Try.ntmps57
 go_wp2_with (fail)
 go_quiet ((go_at_call 70; exact quiet_ws (patternKids_any _ _)))
 go_wp2_with (fail)
 all_goals
  go_returns
  exact ⟨rfl, bl⟩
set_option maxHeartbeats 1000000 in
theorem validPattern_t19 (op : Int) (t : ByteArray) (n lo hi vars : Int) (ks : List TPattern) (A : Option Addr) (c : Nat) (S : Nat → Prop) (w : World) (hg : op = 19) (hm : ks.length = kidsN op) (ht0 : ¬ t.size = 0) (hc : c ≤ maxLen) (hlc : ks.length ≤ c) (hvr : 0 ≤ vars ∧ vars ≤ 24) :
  Calls Try.prog 57 #[.agg #[.int .i64 op, .string t, .int .i64 n, .int .i64 lo, .int .i64 hi, .slice A ks.length c], .int .i64 vars] w fun e w' => e = .returned (.bool false) ∧ Bel w w' := by
 unfold maxLen at hc
 subst hg
 have hkn : (((ks.length : Nat) : Int) != ((kidsN 19 : Nat) : Int)) = false := by simp; omega
 have HM := hide hm
 clear hm
 have hemp : t.toList.isEmpty = false := by have := fun e => ht0 (tlE.1 e); simpa using this
 have hemp1 : (!t.toList.isEmpty) = true := by rw [hemp]; rfl
 have H0 := hide ht0
 clear ht0
 go_enter Try.func57, Try.ntmps57
 go_wp2_with (fail)
 go_quiet ((go_at_call 70; exact quiet_ws (patternKids_any _ _)))
 go_wp2_with (fail)
 all_goals
  go_returns
  exact ⟨rfl, bl⟩
set_option maxHeartbeats 1000000 in
theorem validPattern_sa19 (op : Int) (t : ByteArray) (n lo hi vars : Int) (ks : List TPattern) (A : Option Addr) (c : Nat) (S : Nat → Prop) (w : World) (hg : op = 19) (hm : ks.length = kidsN op) (ht0 : t.size = 0) (hs : ¬ lo = 0) (hc : c ≤ maxLen) (hlc : ks.length ≤ c) (hvr : 0 ≤ vars ∧ vars ≤ 24) :
  Calls Try.prog 57 #[.agg #[.int .i64 op, .string t, .int .i64 n, .int .i64 lo, .int .i64 hi, .slice A ks.length c], .int .i64 vars] w fun e w' => e = .returned (.bool false) ∧ Bel w w' := by
 unfold maxLen at hc
 subst hg
 have hkn : (((ks.length : Nat) : Int) != ((kidsN 19 : Nat) : Int)) = false := by simp; omega
 have HM := hide hm
 clear hm
 have hemp := tlE.2 ht0
 have hemp1 : (!t.toList.isEmpty) = false := by rw [hemp]; rfl
 have hlen : decide ((120 : Int) < (t.size : Int)) = false := by simp; omega
 have hlen2 : decide ((t.size : Int) ≤ 120) = true := by simp; omega
 have H0 := hide ht0
 clear ht0
 go_enter Try.func57, Try.ntmps57
 go_wp2_with (fail)
 go_quiet ((go_at_call 70; exact quiet_ws (patternKids_any _ _)))
 go_wp2_with (fail)
 all_goals
  go_returns
  exact ⟨rfl, bl⟩
set_option maxHeartbeats 1000000 in
theorem validPattern_sb19 (op : Int) (t : ByteArray) (n lo hi vars : Int) (ks : List TPattern) (A : Option Addr) (c : Nat) (S : Nat → Prop) (w : World) (hg : op = 19) (hm : ks.length = kidsN op) (ht0 : t.size = 0) (hz : lo = 0) (hs : ¬ hi = 0) (hc : c ≤ maxLen) (hlc : ks.length ≤ c) (hvr : 0 ≤ vars ∧ vars ≤ 24) :
  Calls Try.prog 57 #[.agg #[.int .i64 op, .string t, .int .i64 n, .int .i64 lo, .int .i64 hi, .slice A ks.length c], .int .i64 vars] w fun e w' => e = .returned (.bool false) ∧ Bel w w' := by
 unfold maxLen at hc
 subst hg
 have hkn : (((ks.length : Nat) : Int) != ((kidsN 19 : Nat) : Int)) = false := by simp; omega
 have HM := hide hm
 clear hm
 have hemp := tlE.2 ht0
 have hemp1 : (!t.toList.isEmpty) = false := by rw [hemp]; rfl
 have hlen : decide ((120 : Int) < (t.size : Int)) = false := by simp; omega
 have hlen2 : decide ((t.size : Int) ≤ 120) = true := by simp; omega
 have H0 := hide ht0
 clear ht0
 subst hz
 go_enter Try.func57, Try.ntmps57
 go_wp2_with (fail)
 go_quiet ((go_at_call 70; exact quiet_ws (patternKids_any _ _)))
 go_wp2_with (fail)
 all_goals
  go_returns
  exact ⟨rfl, bl⟩
set_option maxHeartbeats 1000000 in
theorem validPattern_n19 (op : Int) (t : ByteArray) (n lo hi vars : Int) (ks : List TPattern) (A : Option Addr) (c : Nat) (S : Nat → Prop) (w : World) (hg : op = 19) (hm : ks.length = kidsN op) (ht0 : t.size = 0) (hs : lo = 0 ∧ hi = 0) (hn : ¬ n = 0) (hc : c ≤ maxLen) (hlc : ks.length ≤ c) (hvr : 0 ≤ vars ∧ vars ≤ 24) :
  Calls Try.prog 57 #[.agg #[.int .i64 op, .string t, .int .i64 n, .int .i64 lo, .int .i64 hi, .slice A ks.length c], .int .i64 vars] w fun e w' => e = .returned (.bool false) ∧ Bel w w' := by
 unfold maxLen at hc
 subst hg
 have hkn : (((ks.length : Nat) : Int) != ((kidsN 19 : Nat) : Int)) = false := by simp; omega
 have HM := hide hm
 clear hm
 have hemp := tlE.2 ht0
 have hemp1 : (!t.toList.isEmpty) = false := by rw [hemp]; rfl
 have hlen : decide ((120 : Int) < (t.size : Int)) = false := by simp; omega
 have hlen2 : decide ((t.size : Int) ≤ 120) = true := by simp; omega
 have H0 := hide ht0
 clear ht0
 obtain ⟨rfl, rfl⟩ := hs
 go_enter Try.func57, Try.ntmps57
 go_wp2_with (fail)
 go_quiet ((go_at_call 70; exact quiet_ws (patternKids_any _ _)))
 go_wp2_with (fail)
 all_goals
  go_returns
  exact ⟨rfl, bl⟩
set_option maxHeartbeats 1000000 in
theorem validPattern_t20 (op : Int) (t : ByteArray) (n lo hi vars : Int) (ks : List TPattern) (A : Option Addr) (c : Nat) (S : Nat → Prop) (w : World) (hg : op = 20) (hm : ks.length = kidsN op) (ht0 : ¬ t.size = 0) (hc : c ≤ maxLen) (hlc : ks.length ≤ c) (hvr : 0 ≤ vars ∧ vars ≤ 24) :
  Calls Try.prog 57 #[.agg #[.int .i64 op, .string t, .int .i64 n, .int .i64 lo, .int .i64 hi, .slice A ks.length c], .int .i64 vars] w fun e w' => e = .returned (.bool false) ∧ Bel w w' := by
 unfold maxLen at hc
 subst hg
 have hkn : (((ks.length : Nat) : Int) != ((kidsN 20 : Nat) : Int)) = false := by simp; omega
 have HM := hide hm
 clear hm
 have hemp : t.toList.isEmpty = false := by have := fun e => ht0 (tlE.1 e); simpa using this
 have hemp1 : (!t.toList.isEmpty) = true := by rw [hemp]; rfl
 have H0 := hide ht0
 clear ht0
 go_enter Try.func57, Try.ntmps57
 go_wp2_with (fail)
 go_quiet ((go_at_call 70; exact quiet_ws (patternKids_any _ _)))
 go_wp2_with (fail)
 all_goals
  go_returns
  exact ⟨rfl, bl⟩
set_option maxHeartbeats 1000000 in
theorem validPattern_sa20 (op : Int) (t : ByteArray) (n lo hi vars : Int) (ks : List TPattern) (A : Option Addr) (c : Nat) (S : Nat → Prop) (w : World) (hg : op = 20) (hm : ks.length = kidsN op) (ht0 : t.size = 0) (hs : ¬ lo = 0) (hc : c ≤ maxLen) (hlc : ks.length ≤ c) (hvr : 0 ≤ vars ∧ vars ≤ 24) :
  Calls Try.prog 57 #[.agg #[.int .i64 op, .string t, .int .i64 n, .int .i64 lo, .int .i64 hi, .slice A ks.length c], .int .i64 vars] w fun e w' => e = .returned (.bool false) ∧ Bel w w' := by
 unfold maxLen at hc
 subst hg
 have hkn : (((ks.length : Nat) : Int) != ((kidsN 20 : Nat) : Int)) = false := by simp; omega
 have HM := hide hm
 clear hm
 have hemp := tlE.2 ht0
 have hemp1 : (!t.toList.isEmpty) = false := by rw [hemp]; rfl
 have hlen : decide ((120 : Int) < (t.size : Int)) = false := by simp; omega
 have hlen2 : decide ((t.size : Int) ≤ 120) = true := by simp; omega
 have H0 := hide ht0
 clear ht0
 go_enter Try.func57, Try.ntmps57
 go_wp2_with (fail)
 go_quiet ((go_at_call 70; exact quiet_ws (patternKids_any _ _)))
 go_wp2_with (fail)
 all_goals
  go_returns
  exact ⟨rfl, bl⟩
set_option maxHeartbeats 1000000 in
theorem validPattern_sb20 (op : Int) (t : ByteArray) (n lo hi vars : Int) (ks : List TPattern) (A : Option Addr) (c : Nat) (S : Nat → Prop) (w : World) (hg : op = 20) (hm : ks.length = kidsN op) (ht0 : t.size = 0) (hz : lo = 0) (hs : ¬ hi = 0) (hc : c ≤ maxLen) (hlc : ks.length ≤ c) (hvr : 0 ≤ vars ∧ vars ≤ 24) :
  Calls Try.prog 57 #[.agg #[.int .i64 op, .string t, .int .i64 n, .int .i64 lo, .int .i64 hi, .slice A ks.length c], .int .i64 vars] w fun e w' => e = .returned (.bool false) ∧ Bel w w' := by
 unfold maxLen at hc
 subst hg
 have hkn : (((ks.length : Nat) : Int) != ((kidsN 20 : Nat) : Int)) = false := by simp; omega
 have HM := hide hm
 clear hm
 have hemp := tlE.2 ht0
 have hemp1 : (!t.toList.isEmpty) = false := by rw [hemp]; rfl
 have hlen : decide ((120 : Int) < (t.size : Int)) = false := by simp; omega
 have hlen2 : decide ((t.size : Int) ≤ 120) = true := by simp; omega
 have H0 := hide ht0
 clear ht0
 subst hz
 go_enter Try.func57, Try.ntmps57
 go_wp2_with (fail)
 go_quiet ((go_at_call 70; exact quiet_ws (patternKids_any _ _)))
 go_wp2_with (fail)
 all_goals
  go_returns
  exact ⟨rfl, bl⟩
set_option maxHeartbeats 1000000 in
theorem validPattern_na20 (op : Int) (t : ByteArray) (n lo hi vars : Int) (ks : List TPattern) (A : Option Addr) (c : Nat) (S : Nat → Prop) (w : World) (hg : op = 20) (hm : ks.length = kidsN op) (ht0 : t.size = 0) (hs : lo = 0 ∧ hi = 0) (hn : n < 0) (hc : c ≤ maxLen) (hlc : ks.length ≤ c) (hvr : 0 ≤ vars ∧ vars ≤ 24) :
  Calls Try.prog 57 #[.agg #[.int .i64 op, .string t, .int .i64 n, .int .i64 lo, .int .i64 hi, .slice A ks.length c], .int .i64 vars] w fun e w' => e = .returned (.bool false) ∧ Bel w w' := by
 unfold maxLen at hc
 subst hg
 have hkn : (((ks.length : Nat) : Int) != ((kidsN 20 : Nat) : Int)) = false := by simp; omega
 have HM := hide hm
 clear hm
 have hemp := tlE.2 ht0
 have hemp1 : (!t.toList.isEmpty) = false := by rw [hemp]; rfl
 have hlen : decide ((120 : Int) < (t.size : Int)) = false := by simp; omega
 have hlen2 : decide ((t.size : Int) ≤ 120) = true := by simp; omega
 have H0 := hide ht0
 clear ht0
 obtain ⟨rfl, rfl⟩ := hs
 have q1 : decide (0 ≤ n) = false := by simp; omega
 go_enter Try.func57, Try.ntmps57
 go_wp2_with (fail)
 go_quiet ((go_at_call 70; exact quiet_ws (patternKids_any _ _)))
 go_wp2_with (fail)
 all_goals
  go_returns
  exact ⟨rfl, bl⟩
set_option maxHeartbeats 1000000 in
theorem validPattern_nb20 (op : Int) (t : ByteArray) (n lo hi vars : Int) (ks : List TPattern) (A : Option Addr) (c : Nat) (S : Nat → Prop) (w : World) (hg : op = 20) (hm : ks.length = kidsN op) (ht0 : t.size = 0) (hs : lo = 0 ∧ hi = 0) (hn0 : 0 ≤ n) (hn : ¬ n < vars) (hc : c ≤ maxLen) (hlc : ks.length ≤ c) (hvr : 0 ≤ vars ∧ vars ≤ 24) :
  Calls Try.prog 57 #[.agg #[.int .i64 op, .string t, .int .i64 n, .int .i64 lo, .int .i64 hi, .slice A ks.length c], .int .i64 vars] w fun e w' => e = .returned (.bool false) ∧ Bel w w' := by
 unfold maxLen at hc
 subst hg
 have hkn : (((ks.length : Nat) : Int) != ((kidsN 20 : Nat) : Int)) = false := by simp; omega
 have HM := hide hm
 clear hm
 have hemp := tlE.2 ht0
 have hemp1 : (!t.toList.isEmpty) = false := by rw [hemp]; rfl
 have hlen : decide ((120 : Int) < (t.size : Int)) = false := by simp; omega
 have hlen2 : decide ((t.size : Int) ≤ 120) = true := by simp; omega
 have H0 := hide ht0
 clear ht0
 obtain ⟨rfl, rfl⟩ := hs
 have q1 : decide (0 ≤ n) = true := by simp; omega
 have q2 : decide (n < vars) = false := by simp; omega
 go_enter Try.func57, Try.ntmps57
 go_wp2_with (fail)
 go_quiet ((go_at_call 70; exact quiet_ws (patternKids_any _ _)))
 go_wp2_with (fail)
 all_goals
  go_returns
  exact ⟨rfl, bl⟩
set_option maxHeartbeats 1000000 in
theorem validPattern_tx (op : Int) (t : ByteArray) (n lo hi vars : Int) (ks : List TPattern) (A : Option Addr) (c : Nat) (S : Nat → Prop) (w : World) (hg : 11 ≤ op ∧ op ≤ 15) (hm : ks.length = kidsN op) (ht0 : ¬ t.size = 0) (hc : c ≤ maxLen) (hlc : ks.length ≤ c) (hvr : 0 ≤ vars ∧ vars ≤ 24) :
  Calls Try.prog 57 #[.agg #[.int .i64 op, .string t, .int .i64 n, .int .i64 lo, .int .i64 hi, .slice A ks.length c], .int .i64 vars] w fun e w' => e = .returned (.bool false) ∧ Bel w w' := by
 unfold maxLen at hc
 have f0 : decide (op < 1) = false := by simp; omega
 have f1 : decide (23 < op) = false := by simp; omega
 have f2 : decide (op < 7) = false := by simp; omega
 have f3 : decide (10 < op) = true := by simp; omega
 have f4 : decide (2 ≤ op) = true := by simp; omega
 have f5 : decide (op ≤ 6) = false := by simp; omega
 have f6 : decide (7 ≤ op) = true := by simp; omega
 have f7 : decide (op ≤ 10) = false := by simp; omega
 have f8 : decide (16 ≤ op) = false := by simp; omega
 have e1 : (op != 1) = true := by simp; omega
 have e1' : ¬ op = 1 := by omega
 have e16 : ¬ op = 16 := by omega
 have b16 : (op == 16) = false := by simp; omega
 have e17 : ¬ op = 17 := by omega
 have b17 : (op == 17) = false := by simp; omega
 have e18 : ¬ op = 18 := by omega
 have b18 : (op == 18) = false := by simp; omega
 have e20 : ¬ op = 20 := by omega
 have b20 : (op == 20) = false := by simp; omega
 have b1 : (op == 1) = false := by simp; omega
 have hgo := hide hg
 have hkn : (((ks.length : Nat) : Int) != ((kidsN op : Nat) : Int)) = false := by simp; omega
 have HM := hide hm
 clear hm
 have hemp : t.toList.isEmpty = false := by have := fun e => ht0 (tlE.1 e); simpa using this
 have hemp1 : (!t.toList.isEmpty) = true := by rw [hemp]; rfl
 have H0 := hide ht0
 clear ht0
 go_enter Try.func57, Try.ntmps57
 go_wp2_with (fail)
 go_quiet ((go_at_call 70; exact quiet_ws (patternKids_any _ _)))
 go_wp2_with (fail)
 all_goals
  go_returns
  exact ⟨rfl, bl⟩
set_option maxHeartbeats 1000000 in
theorem validPattern_sax (op : Int) (t : ByteArray) (n lo hi vars : Int) (ks : List TPattern) (A : Option Addr) (c : Nat) (S : Nat → Prop) (w : World) (hg : 11 ≤ op ∧ op ≤ 15) (hm : ks.length = kidsN op) (ht0 : t.size = 0) (hs : ¬ lo = 0) (hc : c ≤ maxLen) (hlc : ks.length ≤ c) (hvr : 0 ≤ vars ∧ vars ≤ 24) :
  Calls Try.prog 57 #[.agg #[.int .i64 op, .string t, .int .i64 n, .int .i64 lo, .int .i64 hi, .slice A ks.length c], .int .i64 vars] w fun e w' => e = .returned (.bool false) ∧ Bel w w' := by
 unfold maxLen at hc
 have f0 : decide (op < 1) = false := by simp; omega
 have f1 : decide (23 < op) = false := by simp; omega
 have f2 : decide (op < 7) = false := by simp; omega
 have f3 : decide (10 < op) = true := by simp; omega
 have f4 : decide (2 ≤ op) = true := by simp; omega
 have f5 : decide (op ≤ 6) = false := by simp; omega
 have f6 : decide (7 ≤ op) = true := by simp; omega
 have f7 : decide (op ≤ 10) = false := by simp; omega
 have f8 : decide (16 ≤ op) = false := by simp; omega
 have e1 : (op != 1) = true := by simp; omega
 have e1' : ¬ op = 1 := by omega
 have e16 : ¬ op = 16 := by omega
 have b16 : (op == 16) = false := by simp; omega
 have e17 : ¬ op = 17 := by omega
 have b17 : (op == 17) = false := by simp; omega
 have e18 : ¬ op = 18 := by omega
 have b18 : (op == 18) = false := by simp; omega
 have e20 : ¬ op = 20 := by omega
 have b20 : (op == 20) = false := by simp; omega
 have b1 : (op == 1) = false := by simp; omega
 have hgo := hide hg
 have hkn : (((ks.length : Nat) : Int) != ((kidsN op : Nat) : Int)) = false := by simp; omega
 have HM := hide hm
 clear hm
 have hemp := tlE.2 ht0
 have hemp1 : (!t.toList.isEmpty) = false := by rw [hemp]; rfl
 have hlen : decide ((120 : Int) < (t.size : Int)) = false := by simp; omega
 have hlen2 : decide ((t.size : Int) ≤ 120) = true := by simp; omega
 have H0 := hide ht0
 clear ht0
 go_enter Try.func57, Try.ntmps57
 go_wp2_with (fail)
 go_quiet ((go_at_call 70; exact quiet_ws (patternKids_any _ _)))
 go_wp2_with (fail)
 all_goals
  go_returns
  exact ⟨rfl, bl⟩
set_option maxHeartbeats 1000000 in
theorem validPattern_sbx (op : Int) (t : ByteArray) (n lo hi vars : Int) (ks : List TPattern) (A : Option Addr) (c : Nat) (S : Nat → Prop) (w : World) (hg : 11 ≤ op ∧ op ≤ 15) (hm : ks.length = kidsN op) (ht0 : t.size = 0) (hz : lo = 0) (hs : ¬ hi = 0) (hc : c ≤ maxLen) (hlc : ks.length ≤ c) (hvr : 0 ≤ vars ∧ vars ≤ 24) :
  Calls Try.prog 57 #[.agg #[.int .i64 op, .string t, .int .i64 n, .int .i64 lo, .int .i64 hi, .slice A ks.length c], .int .i64 vars] w fun e w' => e = .returned (.bool false) ∧ Bel w w' := by
 unfold maxLen at hc
 have f0 : decide (op < 1) = false := by simp; omega
 have f1 : decide (23 < op) = false := by simp; omega
 have f2 : decide (op < 7) = false := by simp; omega
 have f3 : decide (10 < op) = true := by simp; omega
 have f4 : decide (2 ≤ op) = true := by simp; omega
 have f5 : decide (op ≤ 6) = false := by simp; omega
 have f6 : decide (7 ≤ op) = true := by simp; omega
 have f7 : decide (op ≤ 10) = false := by simp; omega
 have f8 : decide (16 ≤ op) = false := by simp; omega
 have e1 : (op != 1) = true := by simp; omega
 have e1' : ¬ op = 1 := by omega
 have e16 : ¬ op = 16 := by omega
 have b16 : (op == 16) = false := by simp; omega
 have e17 : ¬ op = 17 := by omega
 have b17 : (op == 17) = false := by simp; omega
 have e18 : ¬ op = 18 := by omega
 have b18 : (op == 18) = false := by simp; omega
 have e20 : ¬ op = 20 := by omega
 have b20 : (op == 20) = false := by simp; omega
 have b1 : (op == 1) = false := by simp; omega
 have hgo := hide hg
 have hkn : (((ks.length : Nat) : Int) != ((kidsN op : Nat) : Int)) = false := by simp; omega
 have HM := hide hm
 clear hm
 have hemp := tlE.2 ht0
 have hemp1 : (!t.toList.isEmpty) = false := by rw [hemp]; rfl
 have hlen : decide ((120 : Int) < (t.size : Int)) = false := by simp; omega
 have hlen2 : decide ((t.size : Int) ≤ 120) = true := by simp; omega
 have H0 := hide ht0
 clear ht0
 subst hz
 go_enter Try.func57, Try.ntmps57
 go_wp2_with (fail)
 go_quiet ((go_at_call 70; exact quiet_ws (patternKids_any _ _)))
 go_wp2_with (fail)
 all_goals
  go_returns
  exact ⟨rfl, bl⟩
set_option maxHeartbeats 1000000 in
theorem validPattern_nx (op : Int) (t : ByteArray) (n lo hi vars : Int) (ks : List TPattern) (A : Option Addr) (c : Nat) (S : Nat → Prop) (w : World) (hg : 11 ≤ op ∧ op ≤ 15) (hm : ks.length = kidsN op) (ht0 : t.size = 0) (hs : lo = 0 ∧ hi = 0) (hn : ¬ n = 0) (hc : c ≤ maxLen) (hlc : ks.length ≤ c) (hvr : 0 ≤ vars ∧ vars ≤ 24) :
  Calls Try.prog 57 #[.agg #[.int .i64 op, .string t, .int .i64 n, .int .i64 lo, .int .i64 hi, .slice A ks.length c], .int .i64 vars] w fun e w' => e = .returned (.bool false) ∧ Bel w w' := by
 unfold maxLen at hc
 have f0 : decide (op < 1) = false := by simp; omega
 have f1 : decide (23 < op) = false := by simp; omega
 have f2 : decide (op < 7) = false := by simp; omega
 have f3 : decide (10 < op) = true := by simp; omega
 have f4 : decide (2 ≤ op) = true := by simp; omega
 have f5 : decide (op ≤ 6) = false := by simp; omega
 have f6 : decide (7 ≤ op) = true := by simp; omega
 have f7 : decide (op ≤ 10) = false := by simp; omega
 have f8 : decide (16 ≤ op) = false := by simp; omega
 have e1 : (op != 1) = true := by simp; omega
 have e1' : ¬ op = 1 := by omega
 have e16 : ¬ op = 16 := by omega
 have b16 : (op == 16) = false := by simp; omega
 have e17 : ¬ op = 17 := by omega
 have b17 : (op == 17) = false := by simp; omega
 have e18 : ¬ op = 18 := by omega
 have b18 : (op == 18) = false := by simp; omega
 have e20 : ¬ op = 20 := by omega
 have b20 : (op == 20) = false := by simp; omega
 have b1 : (op == 1) = false := by simp; omega
 have hgo := hide hg
 have hkn : (((ks.length : Nat) : Int) != ((kidsN op : Nat) : Int)) = false := by simp; omega
 have HM := hide hm
 clear hm
 have hemp := tlE.2 ht0
 have hemp1 : (!t.toList.isEmpty) = false := by rw [hemp]; rfl
 have hlen : decide ((120 : Int) < (t.size : Int)) = false := by simp; omega
 have hlen2 : decide ((t.size : Int) ≤ 120) = true := by simp; omega
 have H0 := hide ht0
 clear ht0
 obtain ⟨rfl, rfl⟩ := hs
 go_enter Try.func57, Try.ntmps57
 go_wp2_with (fail)
 go_quiet ((go_at_call 70; exact quiet_ws (patternKids_any _ _)))
 go_wp2_with (fail)
 all_goals
  go_returns
  exact ⟨rfl, bl⟩
set_option maxHeartbeats 1000000 in
theorem validPattern_ty (op : Int) (t : ByteArray) (n lo hi vars : Int) (ks : List TPattern) (A : Option Addr) (c : Nat) (S : Nat → Prop) (w : World) (hg : 21 ≤ op ∧ op ≤ 23) (hm : ks.length = kidsN op) (ht0 : ¬ t.size = 0) (hc : c ≤ maxLen) (hlc : ks.length ≤ c) (hvr : 0 ≤ vars ∧ vars ≤ 24) :
  Calls Try.prog 57 #[.agg #[.int .i64 op, .string t, .int .i64 n, .int .i64 lo, .int .i64 hi, .slice A ks.length c], .int .i64 vars] w fun e w' => e = .returned (.bool false) ∧ Bel w w' := by
 unfold maxLen at hc
 have f0 : decide (op < 1) = false := by simp; omega
 have f1 : decide (23 < op) = false := by simp; omega
 have f2 : decide (op < 7) = false := by simp; omega
 have f3 : decide (10 < op) = true := by simp; omega
 have f4 : decide (2 ≤ op) = true := by simp; omega
 have f5 : decide (op ≤ 6) = false := by simp; omega
 have f6 : decide (7 ≤ op) = true := by simp; omega
 have f7 : decide (op ≤ 10) = false := by simp; omega
 have f8 : decide (16 ≤ op) = true := by simp; omega
 have f9 : decide (op ≤ 20) = false := by simp; omega
 have e1 : (op != 1) = true := by simp; omega
 have e1' : ¬ op = 1 := by omega
 have e16 : ¬ op = 16 := by omega
 have b16 : (op == 16) = false := by simp; omega
 have e17 : ¬ op = 17 := by omega
 have b17 : (op == 17) = false := by simp; omega
 have e18 : ¬ op = 18 := by omega
 have b18 : (op == 18) = false := by simp; omega
 have e20 : ¬ op = 20 := by omega
 have b20 : (op == 20) = false := by simp; omega
 have b1 : (op == 1) = false := by simp; omega
 have hgo := hide hg
 have hkn : (((ks.length : Nat) : Int) != ((kidsN op : Nat) : Int)) = false := by simp; omega
 have HM := hide hm
 clear hm
 have hemp : t.toList.isEmpty = false := by have := fun e => ht0 (tlE.1 e); simpa using this
 have hemp1 : (!t.toList.isEmpty) = true := by rw [hemp]; rfl
 have H0 := hide ht0
 clear ht0
 go_enter Try.func57, Try.ntmps57
 go_wp2_with (fail)
 go_quiet ((go_at_call 70; exact quiet_ws (patternKids_any _ _)))
 go_wp2_with (fail)
 all_goals
  go_returns
  exact ⟨rfl, bl⟩
set_option maxHeartbeats 1000000 in
theorem validPattern_say (op : Int) (t : ByteArray) (n lo hi vars : Int) (ks : List TPattern) (A : Option Addr) (c : Nat) (S : Nat → Prop) (w : World) (hg : 21 ≤ op ∧ op ≤ 23) (hm : ks.length = kidsN op) (ht0 : t.size = 0) (hs : ¬ lo = 0) (hc : c ≤ maxLen) (hlc : ks.length ≤ c) (hvr : 0 ≤ vars ∧ vars ≤ 24) :
  Calls Try.prog 57 #[.agg #[.int .i64 op, .string t, .int .i64 n, .int .i64 lo, .int .i64 hi, .slice A ks.length c], .int .i64 vars] w fun e w' => e = .returned (.bool false) ∧ Bel w w' := by
 unfold maxLen at hc
 have f0 : decide (op < 1) = false := by simp; omega
 have f1 : decide (23 < op) = false := by simp; omega
 have f2 : decide (op < 7) = false := by simp; omega
 have f3 : decide (10 < op) = true := by simp; omega
 have f4 : decide (2 ≤ op) = true := by simp; omega
 have f5 : decide (op ≤ 6) = false := by simp; omega
 have f6 : decide (7 ≤ op) = true := by simp; omega
 have f7 : decide (op ≤ 10) = false := by simp; omega
 have f8 : decide (16 ≤ op) = true := by simp; omega
 have f9 : decide (op ≤ 20) = false := by simp; omega
 have e1 : (op != 1) = true := by simp; omega
 have e1' : ¬ op = 1 := by omega
 have e16 : ¬ op = 16 := by omega
 have b16 : (op == 16) = false := by simp; omega
 have e17 : ¬ op = 17 := by omega
 have b17 : (op == 17) = false := by simp; omega
 have e18 : ¬ op = 18 := by omega
 have b18 : (op == 18) = false := by simp; omega
 have e20 : ¬ op = 20 := by omega
 have b20 : (op == 20) = false := by simp; omega
 have b1 : (op == 1) = false := by simp; omega
 have hgo := hide hg
 have hkn : (((ks.length : Nat) : Int) != ((kidsN op : Nat) : Int)) = false := by simp; omega
 have HM := hide hm
 clear hm
 have hemp := tlE.2 ht0
 have hemp1 : (!t.toList.isEmpty) = false := by rw [hemp]; rfl
 have hlen : decide ((120 : Int) < (t.size : Int)) = false := by simp; omega
 have hlen2 : decide ((t.size : Int) ≤ 120) = true := by simp; omega
 have H0 := hide ht0
 clear ht0
 go_enter Try.func57, Try.ntmps57
 go_wp2_with (fail)
 go_quiet ((go_at_call 70; exact quiet_ws (patternKids_any _ _)))
 go_wp2_with (fail)
 all_goals
  go_returns
  exact ⟨rfl, bl⟩
set_option maxHeartbeats 1000000 in
theorem validPattern_sby (op : Int) (t : ByteArray) (n lo hi vars : Int) (ks : List TPattern) (A : Option Addr) (c : Nat) (S : Nat → Prop) (w : World) (hg : 21 ≤ op ∧ op ≤ 23) (hm : ks.length = kidsN op) (ht0 : t.size = 0) (hz : lo = 0) (hs : ¬ hi = 0) (hc : c ≤ maxLen) (hlc : ks.length ≤ c) (hvr : 0 ≤ vars ∧ vars ≤ 24) :
  Calls Try.prog 57 #[.agg #[.int .i64 op, .string t, .int .i64 n, .int .i64 lo, .int .i64 hi, .slice A ks.length c], .int .i64 vars] w fun e w' => e = .returned (.bool false) ∧ Bel w w' := by
 unfold maxLen at hc
 have f0 : decide (op < 1) = false := by simp; omega
 have f1 : decide (23 < op) = false := by simp; omega
 have f2 : decide (op < 7) = false := by simp; omega
 have f3 : decide (10 < op) = true := by simp; omega
 have f4 : decide (2 ≤ op) = true := by simp; omega
 have f5 : decide (op ≤ 6) = false := by simp; omega
 have f6 : decide (7 ≤ op) = true := by simp; omega
 have f7 : decide (op ≤ 10) = false := by simp; omega
 have f8 : decide (16 ≤ op) = true := by simp; omega
 have f9 : decide (op ≤ 20) = false := by simp; omega
 have e1 : (op != 1) = true := by simp; omega
 have e1' : ¬ op = 1 := by omega
 have e16 : ¬ op = 16 := by omega
 have b16 : (op == 16) = false := by simp; omega
 have e17 : ¬ op = 17 := by omega
 have b17 : (op == 17) = false := by simp; omega
 have e18 : ¬ op = 18 := by omega
 have b18 : (op == 18) = false := by simp; omega
 have e20 : ¬ op = 20 := by omega
 have b20 : (op == 20) = false := by simp; omega
 have b1 : (op == 1) = false := by simp; omega
 have hgo := hide hg
 have hkn : (((ks.length : Nat) : Int) != ((kidsN op : Nat) : Int)) = false := by simp; omega
 have HM := hide hm
 clear hm
 have hemp := tlE.2 ht0
 have hemp1 : (!t.toList.isEmpty) = false := by rw [hemp]; rfl
 have hlen : decide ((120 : Int) < (t.size : Int)) = false := by simp; omega
 have hlen2 : decide ((t.size : Int) ≤ 120) = true := by simp; omega
 have H0 := hide ht0
 clear ht0
 subst hz
 go_enter Try.func57, Try.ntmps57
 go_wp2_with (fail)
 go_quiet ((go_at_call 70; exact quiet_ws (patternKids_any _ _)))
 go_wp2_with (fail)
 all_goals
  go_returns
  exact ⟨rfl, bl⟩
set_option maxHeartbeats 1000000 in
theorem validPattern_ny (op : Int) (t : ByteArray) (n lo hi vars : Int) (ks : List TPattern) (A : Option Addr) (c : Nat) (S : Nat → Prop) (w : World) (hg : 21 ≤ op ∧ op ≤ 23) (hm : ks.length = kidsN op) (ht0 : t.size = 0) (hs : lo = 0 ∧ hi = 0) (hn : ¬ n = 0) (hc : c ≤ maxLen) (hlc : ks.length ≤ c) (hvr : 0 ≤ vars ∧ vars ≤ 24) :
  Calls Try.prog 57 #[.agg #[.int .i64 op, .string t, .int .i64 n, .int .i64 lo, .int .i64 hi, .slice A ks.length c], .int .i64 vars] w fun e w' => e = .returned (.bool false) ∧ Bel w w' := by
 unfold maxLen at hc
 have f0 : decide (op < 1) = false := by simp; omega
 have f1 : decide (23 < op) = false := by simp; omega
 have f2 : decide (op < 7) = false := by simp; omega
 have f3 : decide (10 < op) = true := by simp; omega
 have f4 : decide (2 ≤ op) = true := by simp; omega
 have f5 : decide (op ≤ 6) = false := by simp; omega
 have f6 : decide (7 ≤ op) = true := by simp; omega
 have f7 : decide (op ≤ 10) = false := by simp; omega
 have f8 : decide (16 ≤ op) = true := by simp; omega
 have f9 : decide (op ≤ 20) = false := by simp; omega
 have e1 : (op != 1) = true := by simp; omega
 have e1' : ¬ op = 1 := by omega
 have e16 : ¬ op = 16 := by omega
 have b16 : (op == 16) = false := by simp; omega
 have e17 : ¬ op = 17 := by omega
 have b17 : (op == 17) = false := by simp; omega
 have e18 : ¬ op = 18 := by omega
 have b18 : (op == 18) = false := by simp; omega
 have e20 : ¬ op = 20 := by omega
 have b20 : (op == 20) = false := by simp; omega
 have b1 : (op == 1) = false := by simp; omega
 have hgo := hide hg
 have hkn : (((ks.length : Nat) : Int) != ((kidsN op : Nat) : Int)) = false := by simp; omega
 have HM := hide hm
 clear hm
 have hemp := tlE.2 ht0
 have hemp1 : (!t.toList.isEmpty) = false := by rw [hemp]; rfl
 have hlen : decide ((120 : Int) < (t.size : Int)) = false := by simp; omega
 have hlen2 : decide ((t.size : Int) ≤ 120) = true := by simp; omega
 have H0 := hide ht0
 clear ht0
 obtain ⟨rfl, rfl⟩ := hs
 go_enter Try.func57, Try.ntmps57
 go_wp2_with (fail)
 go_quiet ((go_at_call 70; exact quiet_ws (patternKids_any _ _)))
 go_wp2_with (fail)
 all_goals
  go_returns
  exact ⟨rfl, bl⟩
end Go.Proofs.Ytdjbfneniohaaaa
