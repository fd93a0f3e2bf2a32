/- The order of two texts and of two numbers, and what a comparison asks of it; two texts joined; two sets joined. -/
import Derived.Test.YtmikipcfepgogaaDoorE15
import Derived.Test.YtmikipcfepgogaaDoorShelf
namespace Go.Proofs.YtmikipcfepgogaaDoor
set_option linter.unusedVariables false
set_option linter.unusedSimpArgs false
set_option maxRecDepth 100000
open Go.RowKit

def cmpT (a b : ByteArray) : Int := Lib.compareBytes a.data.toList b.data.toList
theorem implCompareTexts_any (a b : ByteArray) (w : World) :
    Calls Tryd.prog 70 #[.string a, .string b] w fun e w' => e = .returned (.int .i64 (cmpT a b)) ∧ Bel w w' := by
  have H := hide (fun w => Tryd.strings_Compare a b w)
  go_enter Tryd.func70, Tryd.ntmps70
  go_wp2_with (go_at_call 97; refine (H.out _).mono ?_; rintro e w1 ⟨rfl, rfl⟩)
  go_returns
  exact ⟨rfl, (by repeat' (first | with_reducible exact Bel.refl _ | with_reducible assumption | with_reducible refine Bel.set ?_ ?_ _ | with_reducible refine Bel.alloc ?_ _ | with_reducible refine Bel.drew ?_ | with_reducible refine Bel.drewN ?_ _ | with_reducible refine Bel.trans ?_ (by with_reducible assumption) | (simp; done) | (simp; omega) | refine Bel.alloc ?_ _ | refine Bel.drew ?_ | refine Bel.drewN ?_ _ | refine Bel.set ?_ ?_ _))⟩

theorem drop_cons (a : ByteArray) (k : Nat) (h : k < a.size) : a.data.toList.drop k = a[k] :: a.data.toList.drop (k + 1) := by
  have h2 : k < a.data.toList.length := by simpa using h
  rw [List.drop_eq_getElem_cons h2]
  rfl
theorem cmp_lt {a b : ByteArray} {k : Nat} (h1 : k < a.size) (h2 : k < b.size) (h : a[k].toNat < b[k].toNat) : Lib.compareBytes (a.data.toList.drop k) (b.data.toList.drop k) = -1 := by
  rw [drop_cons a k h1, drop_cons b k h2]
  unfold Lib.compareBytes
  rw [if_pos (by simpa [UInt8.lt_iff_toNat_lt] using h)]
theorem cmp_gt {a b : ByteArray} {k : Nat} (h1 : k < a.size) (h2 : k < b.size) (h : b[k].toNat < a[k].toNat) : Lib.compareBytes (a.data.toList.drop k) (b.data.toList.drop k) = 1 := by
  rw [drop_cons a k h1, drop_cons b k h2]
  unfold Lib.compareBytes
  rw [if_neg (by simp [UInt8.lt_iff_toNat_lt]; omega), if_pos (by simpa [UInt8.lt_iff_toNat_lt] using h)]
theorem cmp_eq {a b : ByteArray} {k : Nat} (h1 : k < a.size) (h2 : k < b.size) (h : a[k].toNat = b[k].toNat) : Lib.compareBytes (a.data.toList.drop k) (b.data.toList.drop k) = Lib.compareBytes (a.data.toList.drop (k + 1)) (b.data.toList.drop (k + 1)) := by
  rw [drop_cons a k h1, drop_cons b k h2]
  conv => lhs; unfold Lib.compareBytes
  rw [if_neg (by simp [UInt8.lt_iff_toNat_lt]; omega), if_neg (by simp [UInt8.lt_iff_toNat_lt]; omega)]
theorem cmp_end {a b : ByteArray} {k : Nat} (h1 : k ≤ a.size) (h2 : k ≤ b.size) (h : k = a.size ∨ k = b.size) : Lib.compareBytes (a.data.toList.drop k) (b.data.toList.drop k) = if a.size < b.size then -1 else if b.size < a.size then 1 else 0 := by
  have ha : a.data.toList.length = a.size := by simp
  have hb : b.data.toList.length = b.size := by simp
  have la : (a.data.toList.drop k).length = a.size - k := by simp
  have lb : (b.data.toList.drop k).length = b.size - k := by simp
  generalize a.data.toList.drop k = x at *
  generalize b.data.toList.drop k = y at *
  cases x with
  | nil => cases y with
    | nil => simp at la lb; rw [if_neg (by omega), if_neg (by omega)]; rfl
    | cons q r => simp at la lb; rw [if_pos (by omega)]; rfl
  | cons p s => cases y with
    | nil => simp at la lb; rw [if_neg (by omega), if_pos (by omega)]; rfl
    | cons q r => simp at la lb; omega

set_option maxHeartbeats 1000000 in
theorem specCompareTexts_any (a b : ByteArray) (w : World) (ha : a.size ≤ maxLen) (hb : b.size ≤ maxLen) :
    Calls Tryd.prog 91 #[.string a, .string b] w fun e w' => e = .returned (.int .i64 (cmpT a b)) ∧ Bel w w' := by
  unfold maxLen at ha hb
  go_enter Tryd.func91, Tryd.ntmps91
  go_wp2_with (fail)
  go_loopw [5] (fun i wr => ∃ k : Nat, i = .int .i64 k ∧ k ≤ a.size ∧ k ≤ b.size ∧ Hid (Lib.compareBytes (a.data.toList.drop k) (b.data.toList.drop k) = cmpT a b) ∧ Bel w wr) (fun i _ => a.size - (intOf i).toNat)
  case atStart => exact ⟨0, rfl, by omega, by omega, rfl, (by repeat' (first | with_reducible exact Bel.refl _ | with_reducible assumption | with_reducible refine Bel.set ?_ ?_ _ | with_reducible refine Bel.alloc ?_ _ | with_reducible refine Bel.drew ?_ | with_reducible refine Bel.drewN ?_ _ | with_reducible refine Bel.trans ?_ (by with_reducible assumption) | (simp; done) | (simp; omega) | refine Bel.alloc ?_ _ | refine Bel.drew ?_ | refine Bel.drewN ?_ _ | refine Bel.set ?_ ?_ _))⟩
  case round =>
    obtain ⟨k, rfl, k1, k2, hc, hbw⟩ := hrel
    by_cases h1 : k < a.size
    · have d1 : decide ((k : Int) < (a.size : Int)) = true := by simp; omega
      by_cases h2 : k < b.size
      · have d2 : decide ((k : Int) < (b.size : Int)) = true := by simp; omega
        have i0 : 0 ≤ (k : Int) := by omega
        have i1 : (k : Int) < a.size := by omega
        have i2 : (k : Int) < b.size := by omega
        rcases Nat.lt_trichotomy a[k].toNat b[k].toNat with h | h | h
        · have hF := hide (hc.out.symm.trans (cmp_lt h1 h2 h))
          go_wp2_with (fail)
          go_quiet (fail)
          go_wp2_with (fail)
          all_goals
            go_returns
            rw [hF.out]
            exact ⟨rfl, (by repeat' (first | with_reducible exact Bel.refl _ | with_reducible assumption | with_reducible refine Bel.set ?_ ?_ _ | with_reducible refine Bel.alloc ?_ _ | with_reducible refine Bel.drew ?_ | with_reducible refine Bel.drewN ?_ _ | with_reducible refine Bel.trans ?_ (by with_reducible assumption) | (simp; done) | (simp; omega) | refine Bel.alloc ?_ _ | refine Bel.drew ?_ | refine Bel.drewN ?_ _ | refine Bel.set ?_ ?_ _))⟩
        · have hE := hide ((cmp_eq h1 h2 h).symm.trans hc.out)
          have l1 : ¬ a[k].toNat < b[k].toNat := by omega
          have l2 : ¬ b[k].toNat < a[k].toNat := by omega
          clear h
          go_wp2_with (fail)
          go_quiet (fail)
          go_wp2_with (fail)
          go_quiet (fail)
          go_wp2_with (fail)
          exact ⟨⟨k + 1, rfl, by omega, by omega, hE, (by repeat' (first | with_reducible exact Bel.refl _ | with_reducible assumption | with_reducible refine Bel.set ?_ ?_ _ | with_reducible refine Bel.alloc ?_ _ | with_reducible refine Bel.drew ?_ | with_reducible refine Bel.drewN ?_ _ | with_reducible refine Bel.trans ?_ (by with_reducible assumption) | (simp; done) | (simp; omega) | refine Bel.alloc ?_ _ | refine Bel.drew ?_ | refine Bel.drewN ?_ _ | refine Bel.set ?_ ?_ _))⟩, by simp only [intOf]; omega⟩
        · have hF := hide (hc.out.symm.trans (cmp_gt h1 h2 h))
          have l1 : ¬ a[k].toNat < b[k].toNat := by omega
          go_wp2_with (fail)
          go_quiet (fail)
          go_wp2_with (fail)
          go_quiet (fail)
          go_wp2_with (fail)
          all_goals
            go_returns
            rw [hF.out]
            exact ⟨rfl, (by repeat' (first | with_reducible exact Bel.refl _ | with_reducible assumption | with_reducible refine Bel.set ?_ ?_ _ | with_reducible refine Bel.alloc ?_ _ | with_reducible refine Bel.drew ?_ | with_reducible refine Bel.drewN ?_ _ | with_reducible refine Bel.trans ?_ (by with_reducible assumption) | (simp; done) | (simp; omega) | refine Bel.alloc ?_ _ | refine Bel.drew ?_ | refine Bel.drewN ?_ _ | refine Bel.set ?_ ?_ _))⟩
      · have d2 : decide ((k : Int) < (b.size : Int)) = false := by simp; omega
        have hF := hide (hc.out.symm.trans (cmp_end k1 k2 (by omega)))
        have l1 : ¬ a.size < b.size := by omega
        have l2 : b.size < a.size := by omega
        go_wp2_with (fail)
        all_goals
          go_returns
          rw [hF.out, if_neg l1, if_pos l2]
          exact ⟨rfl, (by repeat' (first | with_reducible exact Bel.refl _ | with_reducible assumption | with_reducible refine Bel.set ?_ ?_ _ | with_reducible refine Bel.alloc ?_ _ | with_reducible refine Bel.drew ?_ | with_reducible refine Bel.drewN ?_ _ | with_reducible refine Bel.trans ?_ (by with_reducible assumption) | (simp; done) | (simp; omega) | refine Bel.alloc ?_ _ | refine Bel.drew ?_ | refine Bel.drewN ?_ _ | refine Bel.set ?_ ?_ _))⟩
    · have d1 : decide ((k : Int) < (a.size : Int)) = false := by simp; omega
      have hF := hide (hc.out.symm.trans (cmp_end k1 k2 (by omega)))
      by_cases l1 : a.size < b.size
      · go_wp2_with (fail)
        all_goals
          go_returns
          rw [hF.out, if_pos l1]
          exact ⟨rfl, (by repeat' (first | with_reducible exact Bel.refl _ | with_reducible assumption | with_reducible refine Bel.set ?_ ?_ _ | with_reducible refine Bel.alloc ?_ _ | with_reducible refine Bel.drew ?_ | with_reducible refine Bel.drewN ?_ _ | with_reducible refine Bel.trans ?_ (by with_reducible assumption) | (simp; done) | (simp; omega) | refine Bel.alloc ?_ _ | refine Bel.drew ?_ | refine Bel.drewN ?_ _ | refine Bel.set ?_ ?_ _))⟩
      · have l2 : ¬ b.size < a.size := by omega
        go_wp2_with (fail)
        all_goals
          go_returns
          rw [hF.out, if_neg l1, if_neg l2]
          exact ⟨rfl, (by repeat' (first | with_reducible exact Bel.refl _ | with_reducible assumption | with_reducible refine Bel.set ?_ ?_ _ | with_reducible refine Bel.alloc ?_ _ | with_reducible refine Bel.drew ?_ | with_reducible refine Bel.drewN ?_ _ | with_reducible refine Bel.trans ?_ (by with_reducible assumption) | (simp; done) | (simp; omega) | refine Bel.alloc ?_ _ | refine Bel.drew ?_ | refine Bel.drewN ?_ _ | refine Bel.set ?_ ?_ _))⟩

def ccB (a b : ByteArray) : Bool := decide (a.size + b.size ≤ 120)
def ccT (a b : ByteArray) : ByteArray := if ccB a b then a ++ b else ByteArray.empty
set_option maxHeartbeats 400000 in
theorem specConcat_any (a b : ByteArray) (w : World) (ha : a.size ≤ maxLen) (hb : b.size ≤ maxLen) :
    Calls Tryd.prog 89 #[.string a, .string b] w fun e w' => e = .returned (.tuple #[.string (ccT a b), .bool (ccB a b)]) ∧ Bel w w' := by
  unfold maxLen at ha hb
  by_cases h : a.size + b.size ≤ 120
  · have h2 := hide (show ccB a b = true by simp [ccB, h])
    have h1 := hide (show ccT a b = a ++ b by simp [ccT, h2.out])
    go_enter Tryd.func89, Tryd.ntmps89
    go_wp2_with (fail)
    all_goals
      go_returns
      rw [h1.out, h2.out]
      exact ⟨rfl, (by repeat' (first | with_reducible exact Bel.refl _ | with_reducible assumption | with_reducible refine Bel.set ?_ ?_ _ | with_reducible refine Bel.alloc ?_ _ | with_reducible refine Bel.drew ?_ | with_reducible refine Bel.drewN ?_ _ | with_reducible refine Bel.trans ?_ (by with_reducible assumption) | (simp; done) | (simp; omega) | refine Bel.alloc ?_ _ | refine Bel.drew ?_ | refine Bel.drewN ?_ _ | refine Bel.set ?_ ?_ _))⟩
  · have h2 := hide (show ccB a b = false by simp [ccB, h])
    have h1 := hide (show ccT a b = ByteArray.empty by simp [ccT, h2.out])
    by_cases g : 120 < a.size
    all_goals
      go_enter Tryd.func89, Tryd.ntmps89
      go_wp2_with (fail)
      all_goals
        go_returns
        rw [h1.out, h2.out]
        exact ⟨rfl, (by repeat' (first | with_reducible exact Bel.refl _ | with_reducible assumption | with_reducible refine Bel.set ?_ ?_ _ | with_reducible refine Bel.alloc ?_ _ | with_reducible refine Bel.drew ?_ | with_reducible refine Bel.drewN ?_ _ | with_reducible refine Bel.trans ?_ (by with_reducible assumption) | (simp; done) | (simp; omega) | refine Bel.alloc ?_ _ | refine Bel.drew ?_ | refine Bel.drewN ?_ _ | refine Bel.set ?_ ?_ _))⟩
set_option maxHeartbeats 400000 in
theorem implConcat_any (a b : ByteArray) (w : World) (ha : a.size ≤ 9223372036854775806 / 2) (hb : b.size ≤ 9223372036854775806 / 2) :
    Calls Tryd.prog 69 #[.string a, .string b] w fun e w' => e = .returned (.tuple #[.string (ccT a b), .bool (ccB a b)]) ∧ Bel w w' := by
  by_cases h : a.size + b.size ≤ 120
  · have h2 := hide (show ccB a b = true by simp [ccB, h])
    have h1 := hide (show ccT a b = a ++ b by simp [ccT, h2.out])
    go_enter Tryd.func69, Tryd.ntmps69
    go_wp2_with (fail)
    all_goals
      go_returns
      rw [h1.out, h2.out]
      exact ⟨rfl, (by repeat' (first | with_reducible exact Bel.refl _ | with_reducible assumption | with_reducible refine Bel.set ?_ ?_ _ | with_reducible refine Bel.alloc ?_ _ | with_reducible refine Bel.drew ?_ | with_reducible refine Bel.drewN ?_ _ | with_reducible refine Bel.trans ?_ (by with_reducible assumption) | (simp; done) | (simp; omega) | refine Bel.alloc ?_ _ | refine Bel.drew ?_ | refine Bel.drewN ?_ _ | refine Bel.set ?_ ?_ _))⟩
  · have h2 := hide (show ccB a b = false by simp [ccB, h])
    have h1 := hide (show ccT a b = ByteArray.empty by simp [ccT, h2.out])
    go_enter Tryd.func69, Tryd.ntmps69
    go_wp2_with (fail)
    all_goals
      go_returns
      rw [h1.out, h2.out]
      exact ⟨rfl, (by repeat' (first | with_reducible exact Bel.refl _ | with_reducible assumption | with_reducible refine Bel.set ?_ ?_ _ | with_reducible refine Bel.alloc ?_ _ | with_reducible refine Bel.drew ?_ | with_reducible refine Bel.drewN ?_ _ | with_reducible refine Bel.trans ?_ (by with_reducible assumption) | (simp; done) | (simp; omega) | refine Bel.alloc ?_ _ | refine Bel.drew ?_ | refine Bel.drewN ?_ _ | refine Bel.set ?_ ?_ _))⟩

/-- Does a comparison hold? k counts them. -/
def holdsK (k sign : Int) : Bool := if k = 0 then decide (sign < 0) else if k = 1 then decide (sign ≤ 0) else if k = 2 then decide (sign = 0) else if k = 3 then decide (0 ≤ sign) else if k = 4 then decide (0 < sign) else !decide (sign = 0)
theorem k_cases (k : Int) : k = 0 ∨ k = 1 ∨ k = 2 ∨ k = 3 ∨ k = 4 ∨ (¬ k = 0 ∧ ¬ k = 1 ∧ ¬ k = 2 ∧ ¬ k = 3 ∧ ¬ k = 4) := by omega
set_option maxHeartbeats 1000000 in
theorem implHolds_any (k s : Int) (w : World) :
    Calls Tryd.prog 66 #[.int .i64 k, .int .i64 s] w fun e w' => e = .returned (.bool (holdsK k s)) ∧ Bel w w' := by
  rcases k_cases k with rfl | rfl | rfl | rfl | rfl | ⟨h0, h1, h2, h3, h4⟩
  rotate_right
  · have e0 : (k == 0) = false := by simp [h0]
    have e1 : (k == 1) = false := by simp [h1]
    have e2 : (k == 2) = false := by simp [h2]
    have e3 : (k == 3) = false := by simp [h3]
    have e4 : (k == 4) = false := by simp [h4]
    have hF := hide (show holdsK k s = !decide (s = 0) by simp [holdsK, h0, h1, h2, h3, h4])
    clear h0 h1 h2 h3 h4
    go_enter Tryd.func66, Tryd.ntmps66
    go_wp2_with (fail)
    all_goals
      go_returns
      rw [hF.out]
      refine ⟨?_, (by repeat' (first | with_reducible exact Bel.refl _ | with_reducible assumption | with_reducible refine Bel.set ?_ ?_ _ | with_reducible refine Bel.alloc ?_ _ | with_reducible refine Bel.drew ?_ | with_reducible refine Bel.drewN ?_ _ | with_reducible refine Bel.trans ?_ (by with_reducible assumption) | (simp; done) | (simp; omega) | refine Bel.alloc ?_ _ | refine Bel.drew ?_ | refine Bel.drewN ?_ _ | refine Bel.set ?_ ?_ _))⟩
      refine congrArg (fun b => Ending.returned (.bool b)) ?_
      by_cases e : s = 0 <;> simp [e]
  all_goals
    go_enter Tryd.func66, Tryd.ntmps66
    go_wp2_with (fail)
    all_goals
      go_returns
      refine ⟨?_, (by repeat' (first | with_reducible exact Bel.refl _ | with_reducible assumption | with_reducible refine Bel.set ?_ ?_ _ | with_reducible refine Bel.alloc ?_ _ | with_reducible refine Bel.drew ?_ | with_reducible refine Bel.drewN ?_ _ | with_reducible refine Bel.trans ?_ (by with_reducible assumption) | (simp; done) | (simp; omega) | refine Bel.alloc ?_ _ | refine Bel.drew ?_ | refine Bel.drewN ?_ _ | refine Bel.set ?_ ?_ _))⟩
      refine congrArg (fun b => Ending.returned (.bool b)) ?_
      by_cases e : s = 0 <;> simp [holdsK, e]
set_option maxHeartbeats 1000000 in
theorem specHolds_any (op s : Int) (w : World) (h : 0 ≤ op) (hh : op ≤ 100) :
    Calls Tryd.prog 84 #[.int .i64 op, .int .i64 s] w fun e w' => e = .returned (.bool (holdsK (op % 10) s)) ∧ Bel w w' := by
  rcases k_cases (op % 10) with g | g | g | g | g | ⟨h0, h1, h2, h3, h4⟩
  rotate_right
  · have e0 : (op % 10 == 0) = false := by simp [h0]
    have e1 : (op % 10 == 1) = false := by simp [h1]
    have e2 : (op % 10 == 2) = false := by simp [h2]
    have e3 : (op % 10 == 3) = false := by simp [h3]
    have e4 : (op % 10 == 4) = false := by simp [h4]
    have hF := hide (show holdsK (op % 10) s = !decide (s = 0) by simp [holdsK, h0, h1, h2, h3, h4])
    clear h0 h1 h2 h3 h4
    go_enter Tryd.func84, Tryd.ntmps84
    go_wp2_with (fail)
    all_goals
      go_returns
      rw [hF.out]
      refine ⟨?_, (by repeat' (first | with_reducible exact Bel.refl _ | with_reducible assumption | with_reducible refine Bel.set ?_ ?_ _ | with_reducible refine Bel.alloc ?_ _ | with_reducible refine Bel.drew ?_ | with_reducible refine Bel.drewN ?_ _ | with_reducible refine Bel.trans ?_ (by with_reducible assumption) | (simp; done) | (simp; omega) | refine Bel.alloc ?_ _ | refine Bel.drew ?_ | refine Bel.drewN ?_ _ | refine Bel.set ?_ ?_ _))⟩
      refine congrArg (fun b => Ending.returned (.bool b)) ?_
      by_cases e : s = 0 <;> simp [e]
  all_goals
    go_enter Tryd.func84, Tryd.ntmps84
    go_wp2_with (fail)
    all_goals
      go_returns
      refine ⟨?_, (by repeat' (first | with_reducible exact Bel.refl _ | with_reducible assumption | with_reducible refine Bel.set ?_ ?_ _ | with_reducible refine Bel.alloc ?_ _ | with_reducible refine Bel.drew ?_ | with_reducible refine Bel.drewN ?_ _ | with_reducible refine Bel.trans ?_ (by with_reducible assumption) | (simp; done) | (simp; omega) | refine Bel.alloc ?_ _ | refine Bel.drew ?_ | refine Bel.drewN ?_ _ | refine Bel.set ?_ ?_ _))⟩
      refine congrArg (fun b => Ending.returned (.bool b)) ?_
      by_cases e : s = 0 <;> simp [holdsK, e, g]
def signI (a b : Int) : Int := if a < b then -1 else if b < a then 1 else 0
set_option maxHeartbeats 400000 in
theorem implOrder_any (a b : Int) (w : World) :
    Calls Tryd.prog 67 #[.int .i64 a, .int .i64 b] w fun e w' => e = .returned (.int .i64 (signI a b)) ∧ Bel w w' := by
  go_enter Tryd.func67, Tryd.ntmps67
  go_wp2_with (fail)
  all_goals
    go_returns
    refine ⟨?_, (by repeat' (first | with_reducible exact Bel.refl _ | with_reducible assumption | with_reducible refine Bel.set ?_ ?_ _ | with_reducible refine Bel.alloc ?_ _ | with_reducible refine Bel.drew ?_ | with_reducible refine Bel.drewN ?_ _ | with_reducible refine Bel.trans ?_ (by with_reducible assumption) | (simp; done) | (simp; omega) | refine Bel.alloc ?_ _ | refine Bel.drew ?_ | refine Bel.drewN ?_ _ | refine Bel.set ?_ ?_ _))⟩
    congr 2
    unfold signI
    repeat' split
    all_goals first | rfl | omega
set_option maxHeartbeats 400000 in
theorem specSign_any (a b : Int) (w : World) :
    Calls Tryd.prog 85 #[.int .i64 a, .int .i64 b] w fun e w' => e = .returned (.int .i64 (signI a b)) ∧ Bel w w' := by
  go_enter Tryd.func85, Tryd.ntmps85
  go_wp2_with (fail)
  all_goals
    go_returns
    refine ⟨?_, (by repeat' (first | with_reducible exact Bel.refl _ | with_reducible assumption | with_reducible refine Bel.set ?_ ?_ _ | with_reducible refine Bel.alloc ?_ _ | with_reducible refine Bel.drew ?_ | with_reducible refine Bel.drewN ?_ _ | with_reducible refine Bel.trans ?_ (by with_reducible assumption) | (simp; done) | (simp; omega) | refine Bel.alloc ?_ _ | refine Bel.drew ?_ | refine Bel.drewN ?_ _ | refine Bel.set ?_ ?_ _))⟩
    congr 2
    unfold signI
    repeat' split
    all_goals first | rfl | omega

end Go.Proofs.YtmikipcfepgogaaDoor
