/- IntegerOfText: what it says. -/
import Derived.Test.YtmikipcfepgogaaDoorQ
namespace Go.Proofs.YtmikipcfepgogaaDoor
set_option linter.unusedVariables false
set_option linter.unusedSimpArgs false
set_option maxRecDepth 100000
open Go.RowKit

/-- Behind the spaces. -/
def ldF (s : ByteArray) : Nat → Nat → Nat
  | 0, i => i
  | f + 1, i => if byteAt s i = 32 then ldF s f (i + 1) else i
def ld (s : ByteArray) (i : Nat) : Nat := ldF s (s.size - i) i
theorem ld_yes {s : ByteArray} {i : Nat} (h : i < s.size) (hb : byteAt s i = 32) : ld s (i + 1) = ld s i := by
  unfold ld
  rw [show s.size - i = (s.size - (i + 1)) + 1 by omega, ldF, if_pos hb]
theorem ld_no {s : ByteArray} {i : Nat} (h : ¬ (i < s.size ∧ byteAt s i = 32)) : ld s i = i := by
  unfold ld
  by_cases h1 : i < s.size
  · rw [show s.size - i = (s.size - (i + 1)) + 1 by omega, ldF, if_neg (fun e => h ⟨h1, e⟩)]
  · rw [show s.size - i = 0 by omega, ldF]
/-- Ahead of the spaces at the end. -/
def trF (s : ByteArray) : Nat → Nat → Nat
  | 0, z => z
  | f + 1, z => if byteAt s (z - 1) = 32 then trF s f (z - 1) else z
def tr (s : ByteArray) (a z : Nat) : Nat := trF s (z - a) z
theorem tr_yes {s : ByteArray} {a z : Nat} (h : a < z) (hb : byteAt s (z - 1) = 32) : tr s a (z - 1) = tr s a z := by
  unfold tr
  rw [show z - a = (z - 1 - a) + 1 by omega, trF, if_pos hb]
theorem tr_no {s : ByteArray} {a z : Nat} (h : ¬ (a < z ∧ byteAt s (z - 1) = 32)) : tr s a z = z := by
  unfold tr
  by_cases h1 : a < z
  · rw [show z - a = (z - 1 - a) + 1 by omega, trF, if_neg (fun e => h ⟨h1, e⟩)]
  · rw [show z - a = 0 by omega, trF]
/-- The digits' number. -/
def dvF (s : ByteArray) : Nat → Nat → Int → Option Int
  | 0, _, v => some v
  | f + 1, a, v => if 48 ≤ byteAt s a ∧ byteAt s a ≤ 57 then dvF s f (a + 1) (10 * v + byteAt s a - 48) else none
def dv (s : ByteArray) (z a : Nat) (v : Int) : Option Int := dvF s (z - a) a v
theorem dv_end {s : ByteArray} {z a : Nat} {v : Int} (h : ¬ a < z) : dv s z a v = some v := by
  unfold dv
  rw [show z - a = 0 by omega, dvF]
theorem dv_bad {s : ByteArray} {z a : Nat} {v : Int} (h : a < z) (hb : ¬ (48 ≤ byteAt s a ∧ byteAt s a ≤ 57)) : dv s z a v = none := by
  unfold dv
  rw [show z - a = (z - (a + 1)) + 1 by omega, dvF, if_neg hb]
theorem dv_yes {s : ByteArray} {z a : Nat} {v : Int} (h : a < z) (hb : 48 ≤ byteAt s a ∧ byteAt s a ≤ 57) : dv s z (a + 1) (10 * v + byteAt s a - 48) = dv s z a v := by
  unfold dv
  rw [show z - a = (z - (a + 1)) + 1 by omega, dvF, if_pos hb]

def iotI (s : ByteArray) : Nat := ld s 0
def iotZ (s : ByteArray) : Nat := tr s (iotI s) s.size
def iotSign (s : ByteArray) : Bool := decide (iotI s < iotZ s) && (decide (byteAt s (iotI s) = 45) || decide (byteAt s (iotI s) = 43))
def iotA (s : ByteArray) : Nat := if iotSign s then iotI s + 1 else iotI s
def iotNeg (s : ByteArray) : Bool := iotSign s && decide (byteAt s (iotI s) = 45)
def iot (s : ByteArray) : Int × Bool :=
  if iotZ s < iotA s + 1 ∨ iotA s + 12 < iotZ s then (0, false)
  else match dv s (iotZ s) (iotA s) 0 with
    | none => (0, false)
    | some v => (if iotNeg s then -v else v, true)

theorem iot_eq {s : ByteArray} {z a : Nat} {g : Bool} (hZ : iotZ s = z) (hA : iotA s = a) (hN : iotNeg s = g) :
    iot s = if z < a + 1 ∨ a + 12 < z then (0, false) else match dv s z a 0 with
    | none => (0, false)
    | some v => (if g then -v else v, true) := by
  unfold iot
  rw [hZ, hA, hN]
theorem iot_short {s : ByteArray} (h : iotZ s < iotA s + 1) : iot s = (0, false) := by unfold iot; rw [if_pos (.inl h)]
theorem iot_long {s : ByteArray} (h : iotA s + 12 < iotZ s) : iot s = (0, false) := by unfold iot; rw [if_pos (.inr h)]
theorem iot_bad {s : ByteArray} (h : dv s (iotZ s) (iotA s) 0 = none) : iot s = (0, false) := by
  unfold iot
  rw [h]
  split <;> rfl
theorem iot_good {s : ByteArray} {v : Int} (h1 : ¬ iotZ s < iotA s + 1) (h2 : ¬ iotA s + 12 < iotZ s) (h : dv s (iotZ s) (iotA s) 0 = some v) : iot s = (if iotNeg s then -v else v, true) := by
  unfold iot
  rw [h, if_neg (by omega)]
theorem sign_none {s : ByteArray} (h : ¬ iotI s < iotZ s) : iotA s = iotI s ∧ iotNeg s = false := by
  have : iotSign s = false := by simp [iotSign, h]
  simp [iotA, iotNeg, this]
theorem sign_minus {s : ByteArray} (h : iotI s < iotZ s) (hc : byteAt s (iotI s) = 45) : iotA s = iotI s + 1 ∧ iotNeg s = true := by
  have : iotSign s = true := by simp [iotSign, h, hc]
  simp [iotA, iotNeg, this, hc]
theorem sign_plus {s : ByteArray} (h : iotI s < iotZ s) (hc : byteAt s (iotI s) = 43) : iotA s = iotI s + 1 ∧ iotNeg s = false := by
  have : iotSign s = true := by simp [iotSign, h, hc]
  simp [iotA, iotNeg, this, hc]
theorem sign_digit {s : ByteArray} (h1 : ¬ byteAt s (iotI s) = 45) (h2 : ¬ byteAt s (iotI s) = 43) : iotA s = iotI s ∧ iotNeg s = false := by
  have : iotSign s = false := by simp [iotSign, h1, h2]
  simp [iotA, iotNeg, this]
/-- A number of at most j digits. -/
def VB (v : Int) (j : Nat) : Prop := 0 ≤ v ∧ v < 10 ^ j
theorem VB.zero : VB 0 0 := ⟨by decide, by decide⟩
theorem VB.step {v : Int} {j c : Nat} (h : VB v j) (h1 : 48 ≤ c) (h2 : c ≤ 57) : VB (10 * v + c - 48) (j + 1) := by
  obtain ⟨a, b⟩ := h
  refine ⟨by omega, ?_⟩
  rw [Int.pow_succ]
  omega
theorem VB.le {v : Int} {j : Nat} (h : VB v j) (hj : j ≤ 12) : 0 ≤ v ∧ v < 1000000000000 := by
  refine ⟨h.1, Int.lt_of_lt_of_le h.2 ?_⟩
  have : (10 : Nat) ^ j ≤ 10 ^ 12 := Nat.pow_le_pow_right (by omega) hj
  have e : ((10 : Int) ^ j) = ((10 ^ j : Nat) : Int) := by simp
  rw [e]
  generalize 10 ^ j = p at *
  omega

end Go.Proofs.YtmikipcfepgogaaDoor
