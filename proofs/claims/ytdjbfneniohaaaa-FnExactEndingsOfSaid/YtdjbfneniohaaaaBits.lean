/- One bit of a set's word: three ways to ask it are one. -/
import Derived.Test.YtdjbfneniohaaaaB
import Derived.Laws.BitsAllLaws
namespace Go.Proofs.Ytdjbfneniohaaaa
set_option linter.unusedVariables false
set_option linter.unusedSimpArgs false
set_option maxRecDepth 100000
open Go.RowKit

/-- Bit b of a word of 64. -/
def bitI (x : Int) (b : Nat) : Bool := (BitVec.ofInt 64 x).getLsbD b

theorem two_pow_le (b : Nat) (h : b < 64) : 1 ≤ 2 ^ b ∧ 2 ^ b ≤ 9223372036854775808 := by
  refine ⟨Nat.one_le_two_pow, ?_⟩
  calc 2 ^ b ≤ 2 ^ 63 := Nat.pow_le_pow_right (by omega) (by omega)
    _ = 9223372036854775808 := by decide

theorem ofInt_wrap_pow (b : Nat) (h : b < 64) : BitVec.ofInt 64 (wrap64 (2 ^ b)) = BitVec.twoPow 64 b := by
  apply BitVec.eq_of_toNat_eq
  rw [BitVec.toNat_ofInt, BitVec.toNat_twoPow]
  obtain ⟨h1, h2⟩ := two_pow_le b h
  have e : ((2 : Int) ^ b) = ((2 ^ b : Nat) : Int) := by simp
  rw [e]
  generalize 2 ^ b = p at *
  unfold wrap64
  omega

theorem bit_and (x : Int) (b : Nat) (h : b < 64) : (bits .and .i64 x (wrap64 (2 ^ b)) != 0) = bitI x b := by
  show (IntKind.i64.wrap ((BitVec.ofInt 64 x &&& BitVec.ofInt 64 (wrap64 (2 ^ b))).toNat : Int) != 0) = bitI x b
  rw [ofInt_wrap_pow b h, BitVec.and_twoPow, IntKind.wrap_i64]
  unfold bitI
  obtain ⟨h1, h2⟩ := two_pow_le b h
  cases hb : (BitVec.ofInt 64 x).getLsbD b
  · simp
  · simp only [↓reduceIte, BitVec.toNat_twoPow]
    have e : 2 ^ b % 2 ^ 64 = 2 ^ b := Nat.mod_eq_of_lt (by
      calc 2 ^ b ≤ 9223372036854775808 := h2
        _ < 2 ^ 64 := by decide)
    rw [e]
    generalize 2 ^ b = p at *
    rw [bne_iff_ne]
    omega

theorem bit_shift (x : Int) (b : Nat) (h : b < 64) : (bits .and .u64 (IntKind.u64.wrap x / 2 ^ b) 1 == 1) = bitI x b := by
  have e0 : IntKind.u64.wrap x = ((BitVec.ofInt 64 x).toNat : Int) := by
    rw [Go.IntKind.wrap_u64, BitVec.toNat_ofInt]
    omega
  have hlt := (BitVec.ofInt 64 x).isLt
  have e : ((2 : Int) ^ b) = ((2 ^ b : Nat) : Int) := by simp
  rw [e0, e, ← Int.natCast_ediv]
  unfold bitI
  rw [BitVec.getLsbD]
  generalize (BitVec.ofInt 64 x).toNat = n at *
  have h3 : n / 2 ^ b ≤ n := Nat.div_le_self _ _
  have := u64_and_nat (n / 2 ^ b) 1 (by omega) (by omega)
  rw [show ((1 : Nat) : Int) = 1 from rfl] at this
  rw [this, Nat.and_one_is_mod, Nat.testBit_eq_decide_div_mod_eq]
  generalize n / 2 ^ b % 2 = m
  by_cases hm : m = 1
  · subst hm; rfl
  · have h1 : ((m : Int) == 1) = false := by simp; omega
    rw [h1]
    simp [hm]

/-- Is the byte b in the set? -/
def hasBit (lo hi : Int) (b : Nat) : Bool := if b < 64 then bitI lo b else if b < 128 then bitI hi (b - 64) else false
end Go.Proofs.Ytdjbfneniohaaaa
