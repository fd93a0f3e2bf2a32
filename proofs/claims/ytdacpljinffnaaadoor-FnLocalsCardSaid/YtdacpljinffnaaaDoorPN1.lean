/- Names: reserved words, names, lists of names; both sides. -/
import Derived.Test.YtdacpljinffnaaaDoorPE1
import Derived.Test.YtdacpljinffnaaaDoorPHExpr
namespace Go.Proofs.YtdacpljinffnaaaDoor
set_option linter.unusedVariables false
set_option linter.unusedSimpArgs false
set_option maxRecDepth 100000
open Go.RowKit
theorem ret_bl {a b : Bool} (h : a = b) : Ending.returned (.bool a) = .returned (.bool b) := by rw [h]
def resL : List ByteArray := [⟨#[112, 114, 111, 99, 101, 100, 117, 114, 101]⟩, ⟨#[101, 110, 100]⟩, ⟨#[103, 108, 111, 98, 97, 108]⟩, ⟨#[108, 111, 99, 97, 108]⟩, ⟨#[114, 101, 99, 111, 114, 100]⟩, ⟨#[105, 102]⟩, ⟨#[116, 104, 101, 110]⟩, ⟨#[101, 108, 115, 101]⟩, ⟨#[119, 104, 105, 108, 101]⟩, ⟨#[117, 110, 116, 105, 108]⟩, ⟨#[101, 118, 101, 114, 121]⟩, ⟨#[100, 111]⟩, ⟨#[114, 101, 112, 101, 97, 116]⟩, ⟨#[99, 97, 115, 101]⟩, ⟨#[111, 102]⟩, ⟨#[100, 101, 102, 97, 117, 108, 116]⟩, ⟨#[114, 101, 116, 117, 114, 110]⟩, ⟨#[115, 117, 115, 112, 101, 110, 100]⟩, ⟨#[102, 97, 105, 108]⟩, ⟨#[98, 114, 101, 97, 107]⟩, ⟨#[110, 101, 120, 116]⟩, ⟨#[99, 114, 101, 97, 116, 101]⟩, ⟨#[116, 111]⟩, ⟨#[98, 121]⟩, ⟨#[110, 111, 116]⟩, ⟨#[100, 101, 102, 101, 114]⟩]
theorem resL_len : resL.length = 26 := by decide +kernel
def resB (s : ByteArray) : Bool := Lib.containsS resL s
def letB (b : Int) : Bool := decide (97 ≤ b ∧ b ≤ 122) || decide (65 ≤ b ∧ b ≤ 90) || decide (b = 95)
def digB (b : Int) : Bool := decide (48 ≤ b ∧ b ≤ 57)
theorem let_not_dig {b : Int} (h : letB b = true) : digB b = false := by
 unfold letB at h
 unfold digB
 simp only [Bool.or_eq_true, decide_eq_true_eq] at h
 exact decide_eq_false (by omega)
def ldB (s : ByteArray) : Bool := s.data.toList.all fun c => letB c.toNat || digB c.toNat
def nameB (s : ByteArray) : Bool := decide (1 ≤ s.size) && decide (s.size ≤ 12) && !digB (s.data.toList.getD 0 0).toNat && !resB s && ldB s
set_option maxHeartbeats 400000 in
theorem l1Has_any (l : List ByteArray) (b c : Nat) (x : ByteArray) (w : World) (hl : l.length < 1000000) (hc : ∀ j, j < l.length → w.cell? ⟨b, j, none⟩ = some (.string (l.getD j ByteArray.empty))) :
  Calls Tryd.prog 64 #[.slice (some ⟨b, 0, none⟩) l.length c, .string x] w fun e w' => e = .returned (.bool (Lib.containsS l x)) ∧ w' = w := by
 go_enter Tryd.func64, Tryd.ntmps64
 go_wp2_with (fail)
 go_loopw [5] (fun v wr => ∃ m : Nat, v = .int .i64 m ∧ m ≤ l.length ∧ Hid (∀ j, j < m → l.getD j ByteArray.empty ≠ x) ∧ wr = w) (fun v _ => l.length - (intOf v).toNat)
 case atStart => exact ⟨0, rfl, by omega, fun j hj => by omega, rfl⟩
 case round =>
  obtain ⟨m, rfl, m1, hm, rfl⟩ := hrel
  by_cases h1 : m < l.length
  ·
   have hd : decide ((m : Int) < (l.length : Int)) = true := by simp [h1]
   have hcm := hc m h1
   rw [show l.getD m ByteArray.empty = l[m] by simp [List.getD, h1]] at hcm
   have hw : IntKind.i64.wrap ((m : Int) + 1) = (m : Int) + 1 := by rw [IntKind.wrap_i64]; omega
   by_cases hx : l[m] = x
   ·
    have hR : Lib.containsS l x = true := by
     rw [Lib.containsS_iff, ← hx]; exact List.getElem_mem h1
    go_wp2_with (fail)
    all_goals
     go_returns
     exact ⟨by rw [hR]; first | done | rfl, rfl⟩
   ·
    have hd2 : (l[m].toList == x.toList) = false := by rw [beq_eq_false_iff_ne]; exact fun h => hx ((ba_eq _ _).1 h)
    go_wp2_with (fail)
    exact ⟨⟨m + 1, rfl, h1, fun j hj => by
     by_cases e : j = m
     ·
      subst e; simpa [List.getD, h1] using hx
     ·
      exact hm.out j (by omega), trivial⟩, by simp only [intOf]; omega⟩
  ·
   have hd : decide ((m : Int) < (l.length : Int)) = false := by simp [h1]
   have hR : Lib.containsS l x = false := by
    have : Lib.idxOfS l x = -1 := Lib.idxFromS_miss x l 0 fun j hj => hm.out j (by omega)
    rw [Lib.containsS, this]; rfl
   go_wp2_with (fail)
   all_goals
    go_returns
    exact ⟨by rw [hR]; first | done | rfl, rfl⟩
theorem specIsReserved_any (x : ByteArray) (w : World) :
  Calls Tryd.prog 50 #[.string x] w fun e w' => e = .returned (.bool (resB x)) ∧ Bel w w' := by
 have hF := l1Has_any resL w.heap.size 26 x (w.alloc (.cells (resL.map Value.string).toArray 9)) (by rw [resL_len]; omega) (fun j hj => strs_cell resL w j hj)
 rw [resL_len] at hF
 go_enter Tryd.func50, Tryd.ntmps50
 go_wp2_with (go_at_call 64; refine hF.mono ?_; rintro e w1 ⟨rfl, rfl⟩)
 all_goals
  go_returns
  exact ⟨rfl, bl⟩
theorem reservedWords_any (w : World) (ht : Sp w) : Calls Tryd.prog 58 #[] w fun e w' => Strs resL w w' e := by
 go_enter Tryd.func58, Tryd.ntmps58
 go_wp2_with (go_at_call 66; refine (fields_at resL _ _ ht (by decide +kernel) (by decide +kernel) (by decide +kernel)).mono ?_; rintro e w1 ⟨rfl, rfl⟩)
 all_goals
  go_returns
  exact ⟨rfl, rfl⟩
theorem implIsReserved_any (x : ByteArray) (w : World) (ht : Sp w) :
  Calls Tryd.prog 43 #[.string x] w fun e w' => e = .returned (.bool (resB x)) ∧ Bel w w' := by
 have hL := resL_len
 have hF := Tryd.slices_Contains_string w.heap.size 0 26 26 resL x (w.alloc (.cells (resL.map Value.string).toArray 9)) (by omega) (by omega) (fun j hj => by simpa using strs_cell resL w j hj)
 rw [show resL.take 26 = resL by rw [← hL]; exact List.take_length] at hF
 go_enter Tryd.func43, Tryd.ntmps43
 go_wp2_with (first
  | (go_at_call 58; refine (reservedWords_any _ ht).mono ?_; rintro e w1 ⟨rfl, rfl⟩; rw [hL])
  | (go_at_call 48; refine hF.mono ?_; rintro e w1 ⟨rfl, rfl⟩))
 all_goals
  go_returns
  exact ⟨rfl, bl⟩
theorem ldB_all {s : ByteArray} (h : ∀ k (hk : k < s.size), letB (s[k].toNat) = true ∨ digB (s[k].toNat) = true) : ldB s = true := by
 unfold ldB
 rw [List.all_eq_true]
 intro x hx
 obtain ⟨k, hk, rfl⟩ := List.mem_iff_getElem.1 hx
 have := h k (by simpa using hk)
 simpa [ByteArray.getElem_eq_getElem_data] using this
theorem ldB_no {s : ByteArray} (k : Nat) (hk : k < s.size) (h1 : letB (s[k].toNat) = false) (h2 : digB (s[k].toNat) = false) : ldB s = false := by
 unfold ldB
 rw [List.all_eq_false]
 exact ⟨s[k], by
  rw [ByteArray.getElem_eq_getElem_data]
  exact List.mem_iff_getElem.2 ⟨k, by simpa using hk, by simp⟩, by simp [h1, h2]⟩
theorem head_get {s : ByteArray} (h : 0 < s.size) : (s.data.toList.getD 0 0) = s[0] := by
 rw [ByteArray.getElem_eq_getElem_data]
 simp [List.getD]
 rw [Array.getElem?_eq_getElem (show 0 < s.data.size by simpa using h)]
 rfl
theorem specLetter_any (b : Int) (w : World) (h0 : 0 ≤ b) (h1 : b < 256) : Calls Tryd.prog 49 #[.int .u8 b] w fun e w' => e = .returned (.bool (letB b)) ∧ w = w' := by
 unfold letB
 go_enter Tryd.func49, Tryd.ntmps49
 go_wp2
 all_goals
  go_returns
  go_light
  refine ⟨?_, rfl⟩
  simp only [Array.getD_eq_getD_getElem?, List.getElem?_toArray, List.getElem?_cons_succ, List.getElem?_cons_zero, Option.getD_some]
  first | done | (simp_all; done) | (simp_all; omega) | (rw [Ending.returned.injEq, Value.bool.injEq, Bool.eq_iff_iff]; simp; omega) | (simp only [Ending.returned.injEq, Value.bool.injEq]; rw [Bool.eq_iff_iff]; simp; omega)
theorem specDigit_any (b : Int) (w : World) (h0 : 0 ≤ b) (h1 : b < 256) : Calls Tryd.prog 51 #[.int .u8 b] w fun e w' => e = .returned (.bool (digB b)) ∧ w = w' := by
 unfold digB
 go_enter Tryd.func51, Tryd.ntmps51
 go_wp2
 all_goals
  go_returns
  go_light
  refine ⟨?_, rfl⟩
  simp only [Array.getD_eq_getD_getElem?, List.getElem?_toArray, List.getElem?_cons_succ, List.getElem?_cons_zero, Option.getD_some]
  first | done | (simp_all; done) | (simp_all; omega) | (rw [Ending.returned.injEq, Value.bool.injEq, Bool.eq_iff_iff]; simp; omega) | (simp only [Ending.returned.injEq, Value.bool.injEq]; rw [Bool.eq_iff_iff]; simp; omega)
set_option maxHeartbeats 1000000 in
theorem specIsName_any (s : ByteArray) (w : World) :
  Calls Tryd.prog 33 #[.string s] w fun e w' => e = .returned (.bool (nameB s)) ∧ Bel w w' := by
 rcases Nat.lt_or_ge s.size 1 with h1 | h1
 ·
  have hR : nameB s = false := by unfold nameB; rw [decide_eq_false (by omega)]; rfl
  have hd : decide ((s.size : Int) < 1) = true := decide_eq_true (by omega)
  have hd' : decide (s.size < 1) = true := decide_eq_true (by omega)
  rw [hR]
  go_enter Tryd.func33, Tryd.ntmps33
  go_wp2_with (fail)
  all_goals
   go_returns
   exact ⟨rfl, bl⟩
 rcases Nat.lt_or_ge 12 s.size with h2 | h2
 ·
  have hR : nameB s = false := by unfold nameB; rw [decide_eq_false (show ¬ s.size ≤ 12 by omega)]; simp
  rw [hR]
  go_enter Tryd.func33, Tryd.ntmps33
  go_wp2_with (fail)
  all_goals
   go_returns
   exact ⟨rfl, bl⟩
 have hc0 : (s[0].toNat : Int) < 256 := by have := s[0].toNat_lt; omega
 have hH := hide (head_get (s := s) (by omega))
 have hR0 := hide (show nameB s = (!digB s[0].toNat && !resB s && ldB s) by unfold nameB; rw [hH.out, decide_eq_true (show 1 ≤ s.size by omega), decide_eq_true h2]; simp)
 clear hH

 cases hg : letB s[0].toNat
 case false =>
  have hR1 : nameB s = false := by
   cases hdg : digB s[0].toNat
   ·
    rw [hR0.out, ldB_no 0 (by omega) hg hdg]; simp
   ·
    rw [hR0.out, hdg]; rfl
  rw [hR1]
  go_enter Tryd.func33, Tryd.ntmps33
  go_wp2_with (first | (go_at_call 49; (with_reducible refine (specLetter_any _ _ (by omega) (by omega)).mono ?_); rintro e w1 ⟨rfl, rfl⟩) | (go_at_call 50; refine (specIsReserved_any s _).mono ?_; rintro e w3 ⟨rfl, hb3⟩))
  all_goals
   go_returns
   exact ⟨rfl, bl⟩
 have hnd := let_not_dig hg

 cases hr : resB s
 case true =>
  have hR1 : nameB s = false := by rw [hR0.out, hr]; simp
  rw [hR1]
  go_enter Tryd.func33, Tryd.ntmps33
  go_wp2_with (first | (go_at_call 49; (with_reducible refine (specLetter_any _ _ (by omega) (by omega)).mono ?_); rintro e w1 ⟨rfl, rfl⟩) | (go_at_call 51; (with_reducible refine (specDigit_any _ _ (by omega) (by omega)).mono ?_); rintro e w2 ⟨rfl, rfl⟩) | (go_at_call 50; refine (specIsReserved_any s _).mono ?_; rintro e w3 ⟨rfl, hb3⟩))
  all_goals
   go_returns
   exact ⟨rfl, bl⟩
 have hR1 := hide (show nameB s = ldB s by rw [hR0.out, hr, hnd]; simp)
 clear hR0
 go_enter Tryd.func33, Tryd.ntmps33
 go_wp2_with (first | (go_at_call 49; (with_reducible refine (specLetter_any _ _ (by omega) (by omega)).mono ?_); rintro e w1 ⟨rfl, rfl⟩) | (go_at_call 51; (with_reducible refine (specDigit_any _ _ (by omega) (by omega)).mono ?_); rintro e w2 ⟨rfl, rfl⟩) | (go_at_call 50; refine (specIsReserved_any s _).mono ?_; rintro e w3 ⟨rfl, hb3⟩))
 go_loopw [3] (fun v wr => ∃ m : Nat, v = .int .i64 m ∧ m ≤ s.size ∧ Hid (∀ j (hj : j < s.size), j < m → letB s[j].toNat = true ∨ digB s[j].toNat = true) ∧ Bel w wr) (fun v _ => s.size - (intOf v).toNat)
 case atStart => exact ⟨0, rfl, by omega, fun j _ hj => by omega, bl⟩
 case round =>
  obtain ⟨m, rfl, m1, hm, hbw⟩ := hrel
  by_cases h3 : m < s.size
  ·
   have hd : decide ((m : Int) < (s.size : Int)) = true := by simp [h3]
   have hcm : (s[m].toNat : Int) < 256 := by have := s[m].toNat_lt; omega
   cases hl : letB s[m].toNat <;> cases hdg : digB s[m].toNat
   ·
    have hR2 := hide (hR1.out.trans (ldB_no m h3 hl hdg))
    go_wp2_with (first | (go_at_call 49; (with_reducible refine (specLetter_any _ _ (by omega) (by omega)).mono ?_); rintro e w1 ⟨rfl, rfl⟩) | (go_at_call 51; (with_reducible refine (specDigit_any _ _ (by omega) (by omega)).mono ?_); rintro e w2 ⟨rfl, rfl⟩) | (go_at_call 50; refine (specIsReserved_any s _).mono ?_; rintro e w3 ⟨rfl, hb3⟩))
    all_goals
     go_returns
     exact ⟨by rw [hR2.out]; first | done | rfl, bl⟩
   all_goals
    go_wp2_with (first | (go_at_call 49; (with_reducible refine (specLetter_any _ _ (by omega) (by omega)).mono ?_); rintro e w1 ⟨rfl, rfl⟩) | (go_at_call 51; (with_reducible refine (specDigit_any _ _ (by omega) (by omega)).mono ?_); rintro e w2 ⟨rfl, rfl⟩) | (go_at_call 50; refine (specIsReserved_any s _).mono ?_; rintro e w3 ⟨rfl, hb3⟩))
    go_roundw
    case rel => exact ⟨m + 1, by go_num, by omega, fun j hj hjm => by
     by_cases e : j = m
     ·
      subst e; first | exact Or.inl hl | exact Or.inr hdg
     ·
      exact hm.out j hj (by omega), bl⟩
    case measure => simp [intOf]; omega
  ·
   have hd : decide ((m : Int) < (s.size : Int)) = false := by simp [h3]
   have hR2 := hide (hR1.out.trans (ldB_all fun k hk => hm.out k hk (by omega)))
   go_wp2_with (fail)
   all_goals
    go_returns
    exact ⟨by rw [hR2.out]; first | done | rfl, bl⟩
theorem implLetter_any (b : Int) (w : World) (h0 : 0 ≤ b) (h1 : b < 256) : Calls Tryd.prog 44 #[.int .u8 b] w fun e w' => e = .returned (.bool (letB b)) ∧ w = w' := by
 unfold letB
 go_enter Tryd.func44, Tryd.ntmps44
 go_wp2
 all_goals
  go_returns
  go_light
  refine ⟨?_, rfl⟩
  simp only [Array.getD_eq_getD_getElem?, List.getElem?_toArray, List.getElem?_cons_succ, List.getElem?_cons_zero, Option.getD_some]
  first | done | (simp_all; done) | (simp_all; omega) | (rw [Ending.returned.injEq, Value.bool.injEq, Bool.eq_iff_iff]; simp; omega) | (simp only [Ending.returned.injEq, Value.bool.injEq]; rw [Bool.eq_iff_iff]; simp; omega)
theorem implDigit_any (b : Int) (w : World) (h0 : 0 ≤ b) (h1 : b < 256) : Calls Tryd.prog 42 #[.int .u8 b] w fun e w' => e = .returned (.bool (digB b)) ∧ w = w' := by
 unfold digB
 go_enter Tryd.func42, Tryd.ntmps42
 go_wp2
 all_goals
  go_returns
  go_light
  refine ⟨?_, rfl⟩
  simp only [Array.getD_eq_getD_getElem?, List.getElem?_toArray, List.getElem?_cons_succ, List.getElem?_cons_zero, Option.getD_some]
  first | done | (simp_all; done) | (simp_all; omega) | (rw [Ending.returned.injEq, Value.bool.injEq, Bool.eq_iff_iff]; simp; omega) | (simp only [Ending.returned.injEq, Value.bool.injEq]; rw [Bool.eq_iff_iff]; simp; omega)
set_option maxHeartbeats 1000000 in
theorem implIsName_any (s : ByteArray) (w : World) (ht : Sp w) :
  Calls Tryd.prog 29 #[.string s] w fun e w' => e = .returned (.bool (nameB s)) ∧ Bel w w' := by
 have HT := hide ht
 clear ht
 rcases Nat.lt_or_ge s.size 1 with h1 | h1
 ·
  have hR : nameB s = false := by unfold nameB; rw [decide_eq_false (by omega)]; rfl
  have hd : decide ((s.size : Int) < 1) = true := decide_eq_true (by omega)
  have hd' : decide (s.size < 1) = true := decide_eq_true (by omega)
  rw [hR]
  go_enter Tryd.func29, Tryd.ntmps29
  go_wp2_with (fail)
  all_goals
   go_returns
   exact ⟨rfl, bl⟩
 rcases Nat.lt_or_ge 12 s.size with h2 | h2
 ·
  have hR : nameB s = false := by unfold nameB; rw [decide_eq_false (show ¬ s.size ≤ 12 by omega)]; simp
  rw [hR]
  go_enter Tryd.func29, Tryd.ntmps29
  go_wp2_with (fail)
  all_goals
   go_returns
   exact ⟨rfl, bl⟩
 have hc0 : (s[0].toNat : Int) < 256 := by have := s[0].toNat_lt; omega
 have hH := hide (head_get (s := s) (by omega))
 have hR0 := hide (show nameB s = (!digB s[0].toNat && !resB s && ldB s) by unfold nameB; rw [hH.out, decide_eq_true (show 1 ≤ s.size by omega), decide_eq_true h2]; simp)
 clear hH

 cases hg : digB s[0].toNat
 case true =>
  rw [hR0.out]
  go_enter Tryd.func29, Tryd.ntmps29
  go_wp2_with (first | (go_at_call 42; (with_reducible refine (implDigit_any _ _ (by omega) (by omega)).mono ?_); rintro e w2 ⟨rfl, rfl⟩) | (go_at_call 43; refine (implIsReserved_any s _ HT.out).mono ?_; rintro e w3 ⟨rfl, hb3⟩))
  all_goals
   go_returns
   exact ⟨by rw [hg]; first | done | rfl, bl⟩

 cases hr : resB s
 case true =>
  have hR1 : nameB s = false := by rw [hR0.out, hr]; simp
  rw [hR1]
  go_enter Tryd.func29, Tryd.ntmps29
  go_wp2_with (first | (go_at_call 44; (with_reducible refine (implLetter_any _ _ (by omega) (by omega)).mono ?_); rintro e w1 ⟨rfl, rfl⟩) | (go_at_call 42; (with_reducible refine (implDigit_any _ _ (by omega) (by omega)).mono ?_); rintro e w2 ⟨rfl, rfl⟩) | (go_at_call 43; refine (implIsReserved_any s _ HT.out).mono ?_; rintro e w3 ⟨rfl, hb3⟩))
  all_goals
   go_returns
   exact ⟨rfl, bl⟩
 have hR1 := hide (show nameB s = ldB s by rw [hR0.out, hr, hg]; simp)
 clear hR0
 go_enter Tryd.func29, Tryd.ntmps29
 go_wp2_with (first | (go_at_call 44; (with_reducible refine (implLetter_any _ _ (by omega) (by omega)).mono ?_); rintro e w1 ⟨rfl, rfl⟩) | (go_at_call 42; (with_reducible refine (implDigit_any _ _ (by omega) (by omega)).mono ?_); rintro e w2 ⟨rfl, rfl⟩) | (go_at_call 43; refine (implIsReserved_any s _ HT.out).mono ?_; rintro e w3 ⟨rfl, hb3⟩))
 go_loopw [3] (fun v wr => ∃ m : Nat, v = .int .i64 m ∧ m ≤ s.size ∧ Hid (∀ j (hj : j < s.size), j < m → letB s[j].toNat = true ∨ digB s[j].toNat = true) ∧ Bel w wr) (fun v _ => s.size - (intOf v).toNat)
 case atStart => exact ⟨0, rfl, by omega, fun j _ hj => by omega, bl⟩
 case round =>
  obtain ⟨m, rfl, m1, hm, hbw⟩ := hrel
  by_cases h3 : m < s.size
  ·
   have hd : decide ((m : Int) < (s.size : Int)) = true := by simp [h3]
   have hcm : (s[m].toNat : Int) < 256 := by have := s[m].toNat_lt; omega
   cases hl : letB s[m].toNat <;> cases hdg : digB s[m].toNat
   ·
    have hR2 := hide (hR1.out.trans (ldB_no m h3 hl hdg))
    go_wp2_with (first | (go_at_call 44; (with_reducible refine (implLetter_any _ _ (by omega) (by omega)).mono ?_); rintro e w1 ⟨rfl, rfl⟩) | (go_at_call 42; (with_reducible refine (implDigit_any _ _ (by omega) (by omega)).mono ?_); rintro e w2 ⟨rfl, rfl⟩) | (go_at_call 43; refine (implIsReserved_any s _ HT.out).mono ?_; rintro e w3 ⟨rfl, hb3⟩))
    all_goals
     go_returns
     exact ⟨by rw [hR2.out]; first | done | rfl, bl⟩
   all_goals
    go_wp2_with (first | (go_at_call 44; (with_reducible refine (implLetter_any _ _ (by omega) (by omega)).mono ?_); rintro e w1 ⟨rfl, rfl⟩) | (go_at_call 42; (with_reducible refine (implDigit_any _ _ (by omega) (by omega)).mono ?_); rintro e w2 ⟨rfl, rfl⟩) | (go_at_call 43; refine (implIsReserved_any s _ HT.out).mono ?_; rintro e w3 ⟨rfl, hb3⟩))
    go_roundw
    case rel => exact ⟨m + 1, by go_num, by omega, fun j hj hjm => by
     by_cases e : j = m
     ·
      subst e; first | exact Or.inl hl | exact Or.inr hdg
     ·
      exact hm.out j hj (by omega), bl⟩
    case measure => simp [intOf]; omega
  ·
   have hd : decide ((m : Int) < (s.size : Int)) = false := by simp [h3]
   have hR2 := hide (hR1.out.trans (ldB_all fun k hk => hm.out k hk (by omega)))
   go_wp2_with (fail)
   all_goals
    go_returns
    exact ⟨by rw [hR2.out]; first | done | rfl, bl⟩
end Go.Proofs.YtdacpljinffnaaaDoor
namespace Go.Proofs.YtdacpljinffnaaaDoor
set_option linter.unusedVariables false
set_option linter.unusedSimpArgs false
set_option maxRecDepth 100000
open Go.RowKit
abbrev strsD (l : List ByteArray) : List (List Dat) := l.map fun x => [Dat.str x]
theorem slice_uptoS {b o len c m : Nat} (h : m ≤ c) (w : World) : (Instr.slice 25 (.slice (some ⟨b, o, none⟩) len c) none (some (.int .i64 (m : Int))) none).run Tryd.prog w = .ok (.slice (some ⟨b, o, none⟩) m c) w := by
 rw [run_slice_h (P := Tryd.prog) (ht := by rw [Tryd.underlying25]; kernel_rfl) (h0 := by omega) (h2 := by omega)]
 simp [sliced, go_sem, Tryd.sizeOf9, Addr.add]
theorem getD_lt2 (l : List ByteArray) (k : Nat) (h : k < l.length) : l.getD k ByteArray.empty = l[k] := by simp [List.getD, h]
theorem idx_le_from (x : ByteArray) : ∀ (l : List ByteArray) (j i : Nat) (h : j < l.length), l[j] = x → Lib.idxFromS l x i ≤ ((i + j : Nat) : Int)
 | z :: r, j, i, h, he => by
  rw [Lib.idxFromS]
  split
  ·
   omega
  ·
   rename_i hz
   cases j with
   | zero => exact absurd (by simpa using he) hz
   | succ j =>
    have := idx_le_from x r j (i + 1) (by simpa using h) (by simpa using he)
    omega
theorem idx_le_of (l : List ByteArray) (x : ByteArray) (j : Nat) (h : j < l.length) (he : l[j] = x) (i : Nat) (hi : j < i) : Lib.idxOfS l x < (i : Int) := by
 have := idx_le_from x l j 0 h he
 rw [Lib.idxOfS]
 omega
def twiceB (l : List ByteArray) : Bool := (List.range l.length).any fun i => Lib.containsS (l.take i) (l.getD i ByteArray.empty)
theorem twice_yes {l : List ByteArray} (i : Nat) (hi : i < l.length) (h : Lib.containsS (l.take i) l[i] = true) : twiceB l = true := by
 unfold twiceB
 rw [List.any_eq_true]
 exact ⟨i, List.mem_range.2 hi, by rw [getD_lt2 l i hi]; exact h⟩
theorem twice_no {l : List ByteArray} (h : ∀ i (hi : i < l.length), Lib.containsS (l.take i) l[i] = false) : twiceB l = false := by
 unfold twiceB
 rw [List.any_eq_false]
 intro i hi
 have hi' := List.mem_range.1 hi
 rw [getD_lt2 l i hi', h i hi']
 simp
theorem idx_lt_iff {l : List ByteArray} {i : Nat} (hi : i < l.length) : decide (Lib.idxOfS l l[i] < (i : Int)) = Lib.containsS (l.take i) l[i] := by
 rw [Bool.eq_iff_iff, decide_eq_true_eq, Lib.containsS_iff]
 constructor
 ·
  intro h
  apply Classical.byContradiction
  intro hn
  have hh := Lib.idxFromS_hit l[i] l i 0 hi (by rw [getD_lt2 l i hi]) (fun j hj he => hn (by
   rw [getD_lt2 l j (by omega)] at he
   rw [← he]
   exact List.mem_iff_getElem.2 ⟨j, by simp; omega, by simp⟩))
  rw [Lib.idxOfS, hh] at h
  omega
 ·
  intro h
  obtain ⟨j, hj, he⟩ := List.mem_iff_getElem.1 h
  rw [List.getElem_take] at he
  have hji : j < i := by simp at hj; omega
  exact idx_le_of l l[i] j (by omega) he i hji
theorem Row.strs {w : World} {S : Nat → Prop} {b o c : Nat} {l : List ByteArray} (h : Row w S 1 (some ⟨b, o, none⟩) c (strsD l)) : ∀ j, j < l.length → w.cell? ⟨b, o + j, none⟩ = some (.string (l.getD j ByteArray.empty)) := by
 intro j hj
 obtain ⟨b', o', hA, -, -, -, hc⟩ := strAt h j hj
 injection Option.some.inj hA with q1 q2 _
 subst q1 q2
 rw [getD_lt2 l j hj]
 exact hc
theorem Row.addr {w : World} {S : Nat → Prop} {k c : Nat} {A : Option Addr} {xs : List (List Dat)} (h : Row w S k A c xs) (hne : 0 < xs.length) : ∃ b o, A = some ⟨b, o, none⟩ ∧ S b ∧ b < w.heap.size := by
 obtain ⟨b, o, h1, h2, h3, -⟩ := h.2.2 (fun e => by rw [e] at hne; simp at hne)
 exact ⟨b, o, h1, h2, h3⟩
set_option maxHeartbeats 400000 in
theorem l9Find_row (l : List ByteArray) (x : ByteArray) (S : Nat → Prop) (w : World) (A : Option Addr) (c : Nat) (hR : Row w S 1 A c (strsD l)) :
  Calls Tryd.prog 18 #[.slice A l.length c, .string x] w fun e w' => e = .returned (.int .i64 (Lib.idxOfS l x)) ∧ w = w' := by
 have HR := hide hR
 have hlen := hR.1
 have hcm := hR.2.1
 simp only [List.length_map] at hlen
 unfold maxLen at hcm
 clear hR
 go_enter Tryd.func18, Tryd.ntmps18
 go_wp2_with (fail)
 go_loopw [5] (fun v wr => ∃ m : Nat, v = .int .i64 m ∧ m ≤ l.length ∧ Hid (∀ j, j < m → l.getD j ByteArray.empty ≠ x) ∧ wr = w) (fun v _ => l.length - (intOf v).toNat)
 case atStart => exact ⟨0, rfl, by omega, fun j hj => by omega, rfl⟩
 case round =>
  obtain ⟨m, rfl, m1, hm, rfl⟩ := hrel
  by_cases h1 : m < l.length
  ·
   have hd : decide ((m : Int) < (l.length : Int)) = true := by simp [h1]
   obtain ⟨b1, o1, hA1, hS1, hl1, hz1, c1⟩ := strAt HR.out m h1
   subst hA1
   have hw : IntKind.i64.wrap ((m : Int) + 1) = (m : Int) + 1 := by rw [IntKind.wrap_i64]; omega
   by_cases hx : l[m] = x
   ·
    have hRr : Lib.idxOfS l x = m := by
     have := Lib.idxFromS_hit x l m 0 h1 (by simp [List.getD, h1, hx]) hm.out
     simpa [Lib.idxOfS] using this
    go_wp2_with (fail)
    all_goals
     go_returns
     exact ⟨by rw [hRr]; first | done | rfl, rfl⟩
   ·
    have hd2 : (l[m].toList == x.toList) = false := by rw [beq_eq_false_iff_ne]; exact fun h => hx ((ba_eq _ _).1 h)
    go_wp2_with (fail)
    exact ⟨⟨m + 1, rfl, h1, fun j hj => by
     by_cases e : j = m
     ·
      subst e; simpa [List.getD, h1] using hx
     ·
      exact hm.out j (by omega), trivial⟩, by simp only [intOf]; omega⟩
  ·
   have hd : decide ((m : Int) < (l.length : Int)) = false := by simp [h1]
   have hRr : Lib.idxOfS l x = -1 := Lib.idxFromS_miss x l 0 fun j hj => hm.out j (by omega)
   go_wp2_with (fail)
   all_goals
    go_returns
    exact ⟨by rw [hRr]; first | done | rfl, rfl⟩
set_option maxHeartbeats 400000 in
theorem namesOk_row (l : List ByteArray) (most : Int) (S : Nat → Prop) (w : World) (A : Option Addr) (c : Nat) (hR : Row w S 1 A c (strsD l)) :
  Calls Tryd.prog 32 #[.slice A l.length c, .int .i64 most] w fun e w' => e = .returned (.bool (l.all nameB && decide ((l.length : Int) ≤ most))) ∧ Bel w w' := by
 have HR := hide hR
 have hlen := hR.1
 have hcm := hR.2.1
 simp only [List.length_map] at hlen
 unfold maxLen at hcm
 clear hR
 go_enter Tryd.func32, Tryd.ntmps32
 go_wp2_with (fail)
 go_loopw [5] (fun v wr => ∃ m : Nat, v = .int .i64 m ∧ m ≤ l.length ∧ Hid (∀ j (hj : j < l.length), j < m → nameB l[j] = true) ∧ Bel w wr) (fun v _ => l.length - (intOf v).toNat)
 case atStart => exact ⟨0, rfl, by omega, fun j _ hj => by omega, Bel.refl _⟩
 case round =>
  obtain ⟨m, rfl, m1, hm, hbw⟩ := hrel
  by_cases h1 : m < l.length
  ·
   have hd : decide ((m : Int) < (l.length : Int)) = true := by simp [h1]
   obtain ⟨b1, o1, hA1, hS1, hl1, hz1, c1⟩ := strAt HR.out m h1
   subst hA1
   replace c1 := (hbw.box b1 hl1 _).trans c1
   cases hn : nameB l[m]
   ·
    have HA := hide (show l.all nameB = false from List.all_eq_false.2 ⟨l[m], List.getElem_mem h1, by rw [hn]; simp⟩)
    go_wp2_with ((go_at_call 33; refine (specIsName_any l[m] _).mono ?_; rintro e w1 ⟨rfl, hb1⟩))
    all_goals
     go_returns
     exact ⟨by rw [HA.out]; simp, bl⟩
   ·
    go_wp2_with ((go_at_call 33; refine (specIsName_any l[m] _).mono ?_; rintro e w1 ⟨rfl, hb1⟩))
    go_roundw
    case rel => exact ⟨m + 1, by go_num, by omega, fun j hj hjm => by
     by_cases e : j = m
     ·
      subst e; exact hn
     ·
      exact hm.out j hj (by omega), bl⟩
    case measure => simp [intOf]; omega
  ·
   have hd : decide ((m : Int) < (l.length : Int)) = false := by simp [h1]
   have HA := hide (show l.all nameB = true from List.all_eq_true.2 fun x hx => by
    obtain ⟨k, hk, rfl⟩ := List.mem_iff_getElem.1 hx
    exact hm.out k hk (by omega))
   go_wp2_with (fail)
   all_goals
    go_returns
    exact ⟨by rw [HA.out]; simp_all, bl⟩
set_option maxHeartbeats 400000 in
theorem allNames_row (l : List ByteArray) (S : Nat → Prop) (w : World) (A : Option Addr) (c : Nat) (hR : Row w S 1 A c (strsD l)) (ht : Sp w) :
  Calls Tryd.prog 28 #[.slice A l.length c] w fun e w' => e = .returned (.bool (l.all nameB)) ∧ Bel w w' := by
 have HR := hide hR
 have hlen := hR.1
 have hcm := hR.2.1
 simp only [List.length_map] at hlen
 unfold maxLen at hcm
 clear hR
 have HT := hide ht
 clear ht
 go_enter Tryd.func28, Tryd.ntmps28
 go_wp2_with (fail)
 go_loopw [7] (fun v wr => ∃ m : Nat, v = .int .i64 m ∧ m ≤ l.length ∧ Hid (∀ j (hj : j < l.length), j < m → nameB l[j] = true) ∧ Bel w wr) (fun v _ => l.length - (intOf v).toNat)
 case atStart => exact ⟨0, rfl, by omega, fun j _ hj => by omega, Bel.refl _⟩
 case round =>
  obtain ⟨m, rfl, m1, hm, hbw⟩ := hrel
  by_cases h1 : m < l.length
  ·
   have hd : decide ((m : Int) < (l.length : Int)) = true := by simp [h1]
   obtain ⟨b1, o1, hA1, hS1, hl1, hz1, c1⟩ := strAt HR.out m h1
   subst hA1
   replace c1 := (hbw.box b1 hl1 _).trans c1
   cases hn : nameB l[m]
   ·
    have HA := hide (show l.all nameB = false from List.all_eq_false.2 ⟨l[m], List.getElem_mem h1, by rw [hn]; simp⟩)
    go_wp2_with ((go_at_call 29; refine (implIsName_any l[m] _ (HT.out.on bl)).mono ?_; rintro e w1 ⟨rfl, hb1⟩))
    all_goals
     go_returns
     exact ⟨by rw [HA.out]; simp, bl⟩
   ·
    go_wp2_with ((go_at_call 29; refine (implIsName_any l[m] _ (HT.out.on bl)).mono ?_; rintro e w1 ⟨rfl, hb1⟩))
    go_roundw
    case rel => exact ⟨m + 1, by go_num, by omega, fun j hj hjm => by
     by_cases e : j = m
     ·
      subst e; exact hn
     ·
      exact hm.out j hj (by omega), bl⟩
    case measure => simp [intOf]; omega
  ·
   have hd : decide ((m : Int) < (l.length : Int)) = false := by simp [h1]
   have HA := hide (show l.all nameB = true from List.all_eq_true.2 fun x hx => by
    obtain ⟨k, hk, rfl⟩ := List.mem_iff_getElem.1 hx
    exact hm.out k hk (by omega))
   go_wp2_with (fail)
   all_goals
    go_returns
    exact ⟨by rw [HA.out]; rfl, bl⟩
set_option maxHeartbeats 400000 in
theorem l9Twice_row (l : List ByteArray) (S : Nat → Prop) (w : World) (A : Option Addr) (c : Nat) (hR : Row w S 1 A c (strsD l)) :
  Calls Tryd.prog 19 #[.slice A l.length c] w fun e w' => e = .returned (.bool (twiceB l)) ∧ Bel w w' := by
 have HR := hide hR
 have hlen := hR.1
 have hcm := hR.2.1
 simp only [List.length_map] at hlen
 unfold maxLen at hcm
 clear hR
 go_enter Tryd.func19, Tryd.ntmps19
 go_wp2_with (fail)
 go_loopw [3] (fun v wr => ∃ m : Nat, v = .int .i64 m ∧ m ≤ l.length ∧ Hid (∀ j (hj : j < l.length), j < m → Lib.containsS (l.take j) l[j] = false) ∧ Bel w wr) (fun v _ => l.length - (intOf v).toNat)
 case atStart => exact ⟨0, rfl, by omega, fun j _ hj => by omega, Bel.refl _⟩
 case round =>
  obtain ⟨m, rfl, m1, hm, hbw⟩ := hrel
  by_cases h1 : m < l.length
  ·
   have hd : decide ((m : Int) < (l.length : Int)) = true := by simp [h1]
   obtain ⟨b1, o1, hA1, hS1, hl1, hz1, c1⟩ := strAt HR.out m h1
   subst hA1
   replace c1 := (hbw.box b1 hl1 _).trans c1
   have HI := hide (idx_lt_iff h1)
   cases hn : Lib.containsS (l.take m) l[m]
   ·
    have hix : decide (Lib.idxOfS l l[m] < (m : Int)) = false := HI.out.trans hn
    go_wp2_with ((go_at_call 18; refine (l9Find_row l l[m] S _ _ _ (Row.bel bl HR.out)).mono ?_; rintro e w' ⟨rfl, rfl⟩))
    go_roundw
    case rel => exact ⟨m + 1, by go_num, by omega, fun j hj hjm => by
     by_cases e : j = m
     ·
      subst e; exact hn
     ·
      exact hm.out j hj (by omega), bl⟩
    case measure => simp [intOf]; omega
   ·
    have hix : decide (Lib.idxOfS l l[m] < (m : Int)) = true := HI.out.trans hn
    have HA := hide (twice_yes m h1 hn)
    go_wp2_with ((go_at_call 18; refine (l9Find_row l l[m] S _ _ _ (Row.bel bl HR.out)).mono ?_; rintro e w' ⟨rfl, rfl⟩))
    all_goals
     go_returns
     exact ⟨by rw [HA.out]; first | done | rfl, bl⟩
  ·
   have hd : decide ((m : Int) < (l.length : Int)) = false := by simp [h1]
   have HA := hide (twice_no (l := l) fun k hk => hm.out k hk (by omega))
   go_wp2_with (fail)
   all_goals
    go_returns
    exact ⟨by rw [HA.out]; first | done | rfl, bl⟩
end Go.Proofs.YtdacpljinffnaaaDoor
