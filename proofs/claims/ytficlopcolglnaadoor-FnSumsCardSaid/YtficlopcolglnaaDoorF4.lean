/- A number's own text reads as that number. -/
import Derived.Test.YtficlopcolglnaaDoorE24
import Derived.Test.YtficlopcolglnaaDoorF3
namespace Go.Proofs.YtficlopcolglnaaDoor
set_option linter.unusedVariables false
set_option linter.unusedSimpArgs false
set_option maxRecDepth 100000
open Go.RowKit

def stp (v : Int) (d : UInt8) : Option Int := if 48 ≤ d.toNat ∧ d.toNat ≤ 57 then some (10 * v + d.toNat - 48) else none
def dvL : List UInt8 → Int → Option Int
  | [], v => some v
  | d :: r, v => match stp v d with
    | none => none
    | some u => dvL r u
theorem dvL_snoc (l : List UInt8) (d : UInt8) (v u : Int) (h : dvL l v = some u) : dvL (l ++ [d]) v = stp u d := by
  induction l generalizing v with
  | nil => simp only [dvL, Option.some.injEq] at h; subst h; simp only [List.nil_append, dvL]; cases stp v d <;> rfl
  | cons a r ih =>
    simp only [List.cons_append, dvL] at h ⊢
    cases hs : stp v a with
    | none => rw [hs] at h; cases h
    | some x => rw [hs] at h; exact ih x h
theorem dvL_digits : ∀ (m : Nat), dvL (Lib.decDigits m) 0 = some (m : Int) ∧ ∀ d ∈ Lib.decDigits m, 48 ≤ d.toNat ∧ d.toNat ≤ 57 := by
  intro m
  induction m using Nat.strongRecOn with
  | ind m ih =>
    by_cases h : m < 10
    · rw [Lib.decDigits_one h]
      have e : (UInt8.ofNat (48 + m)).toNat = 48 + m := by rw [UInt8.toNat_ofNat']; omega
      refine ⟨?_, fun d hd => ?_⟩
      · simp only [dvL, stp, e]
        rw [if_pos (by omega)]
        simp only [Option.some.injEq]
        omega
      · simp only [List.mem_singleton] at hd
        subst hd
        rw [e]; omega
    · have e : (UInt8.ofNat (48 + m % 10)).toNat = 48 + m % 10 := by rw [UInt8.toNat_ofNat']; omega
      obtain ⟨h1, h2⟩ := ih (m / 10) (by omega)
      rw [Lib.decDigits, dif_neg h]
      refine ⟨?_, fun d hd => ?_⟩
      · rw [dvL_snoc _ _ _ _ h1]
        unfold stp
        rw [e, if_pos (by omega)]
        simp only [Option.some.injEq]
        omega
      · rcases List.mem_append.1 hd with hd | hd
        · exact h2 d hd
        · simp only [List.mem_singleton] at hd
          subst hd
          rw [e]; omega

theorem dvF_dvL (s : ByteArray) : ∀ (f a : Nat) (v : Int), a + f ≤ s.size → dvF s f a v = dvL ((s.data.toList.drop a).take f) v
  | 0, a, v, h => by simp [dvF, dvL]
  | f + 1, a, v, h => by
    have hl : a < s.size := by omega
    rw [drop_cons s a hl, List.take_succ_cons, dvF, dvL, ← byteAt_eq s a hl, stp]
    split
    · simp only []
      exact dvF_dvL s f (a + 1) _ (by omega)
    · rfl
theorem byteAt_of {s : ByteArray} {l : List UInt8} (h : s.data.toList = l) (i : Nat) : byteAt s i = (l.getD i 0).toNat := by unfold byteAt; rw [h]
theorem digit_getD {l : List UInt8} (h : ∀ d ∈ l, 48 ≤ d.toNat ∧ d.toNat ≤ 57) {i : Nat} (hi : i < l.length) : 48 ≤ (l.getD i 0).toNat ∧ (l.getD i 0).toNat ≤ 57 := by
  rw [List.getD_eq_getElem?_getD, List.getElem?_eq_getElem hi]
  exact h _ (List.getElem_mem hi)
def itT (n : Int) : ByteArray := ⟨(Lib.itoa n).toArray⟩
theorem dec_len {m : Nat} (h : m ≤ 999999999999) : 1 ≤ (Lib.decDigits m).length ∧ (Lib.decDigits m).length ≤ 12 := by
  rw [Lib.decDigits_length]
  refine ⟨?_, nDig_le 11 _ (by omega)⟩
  by_cases h1 : m < 10
  · rw [Lib.nDigits_small h1]; omega
  · rw [Lib.nDigits_big (by omega)]; omega
theorem iot_itoa (n : Int) (h : InM n) : iot (itT n) = (n, true) ∧ (itT n).size ≤ 120 := by
  have hn := natAbs_le h
  obtain ⟨l1, l2⟩ := dec_len hn
  obtain ⟨hd, hc⟩ := dvL_digits n.natAbs
  by_cases hs : n < 0
  · have hT : (itT n).data.toList = 45 :: Lib.decDigits n.natAbs := by
      show (Lib.itoa n).toArray.toList = _
      unfold Lib.itoa
      rw [if_pos hs]
    have hz : (itT n).size = (Lib.decDigits n.natAbs).length + 1 := by
      rw [show (itT n).size = (itT n).data.toList.length from (Array.length_toList).symm, hT]; rfl
    generalize itT n = s at *
    generalize hD : Lib.decDigits n.natAbs = D at *
    have b0 : byteAt s 0 = 45 := by rw [byteAt_of hT]; rfl
    have bz : 48 ≤ byteAt s (s.size - 1) := by
      rw [byteAt_of hT, hz, show D.length + 1 - 1 = (D.length - 1) + 1 by omega]
      exact (digit_getD (l := D) hc (i := D.length - 1) (by omega)).1
    have hI : iotI s = 0 := ld_no (by rw [b0]; omega)
    have hZ : iotZ s = s.size := by unfold iotZ; exact tr_no (by omega)
    obtain ⟨hA, hN⟩ := sign_minus (s := s) (by rw [hI, hZ]; omega) (by rw [hI]; exact b0)
    rw [hI] at hA
    have hv : dv s (iotZ s) (iotA s) 0 = some (n.natAbs : Int) := by
      rw [hZ, hA]
      unfold dv
      rw [dvF_dvL s _ _ _ (by omega), hT]
      show dvL (List.take (s.size - 1) D) 0 = _
      rw [List.take_of_length_le (by omega)]
      exact hd
    refine ⟨?_, by omega⟩
    rw [iot_good (v := (n.natAbs : Int)) (by rw [hZ, hA]; omega) (by rw [hZ, hA]; omega) hv, hN]
    simp only [if_true, Prod.mk.injEq, and_true]
    omega
  · have hT : (itT n).data.toList = Lib.decDigits n.natAbs := by
      show (Lib.itoa n).toArray.toList = _
      unfold Lib.itoa
      rw [if_neg hs, show n.toNat = n.natAbs by omega]
    have hz : (itT n).size = (Lib.decDigits n.natAbs).length := by
      rw [show (itT n).size = (itT n).data.toList.length from (Array.length_toList).symm, hT]
    generalize itT n = s at *
    generalize hD : Lib.decDigits n.natAbs = D at *
    have b0 : 48 ≤ byteAt s 0 ∧ byteAt s 0 ≤ 57 := by rw [byteAt_of hT]; exact digit_getD hc (by omega)
    have bz : 48 ≤ byteAt s (s.size - 1) := by
      rw [byteAt_of hT, hz]
      exact (digit_getD (l := D) hc (i := D.length - 1) (by omega)).1
    have hI : iotI s = 0 := ld_no (by omega)
    have hZ : iotZ s = s.size := by unfold iotZ; exact tr_no (by omega)
    obtain ⟨hA, hN⟩ := sign_digit (s := s) (by rw [hI]; omega) (by rw [hI]; omega)
    rw [hI] at hA
    have hv : dv s (iotZ s) (iotA s) 0 = some (n.natAbs : Int) := by
      rw [hZ, hA]
      unfold dv
      rw [dvF_dvL s _ _ _ (by omega), hT]
      show dvL (List.take (s.size - 0) D) 0 = _
      rw [List.take_of_length_le (by omega)]
      exact hd
    refine ⟨?_, by omega⟩
    rw [iot_good (v := (n.natAbs : Int)) (by rw [hZ, hA]; omega) (by rw [hZ, hA]; omega) hv, hN]
    simp only [Bool.false_eq_true, if_false, Prod.mk.injEq, and_true]
    omega

end Go.Proofs.YtficlopcolglnaaDoor
