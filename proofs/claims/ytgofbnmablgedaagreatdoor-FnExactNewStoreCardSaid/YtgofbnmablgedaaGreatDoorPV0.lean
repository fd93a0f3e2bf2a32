/- A text whose bytes ascend, and the set of its bytes. -/
import Derived.Test.YtgofbnmablgedaaGreatDoorPAh
namespace Go.Proofs.YtgofbnmablgedaaGreatDoor
set_option linter.unusedVariables false
set_option linter.unusedSimpArgs false
set_option maxRecDepth 100000
open Go.RowKit
theorem bit_orB (x : Int) (b j : Nat) (hb : b < 64) (hj : j < 64) : bitI (orB x b) j = (bitI x j || decide (j = b)) := by
 unfold bitI orB
 have e : BitVec.ofInt 64 (IntKind.i64.wrap ((BitVec.ofInt 64 x ||| BitVec.twoPow 64 b).toNat : Int)) = BitVec.ofInt 64 x ||| BitVec.twoPow 64 b := by
  apply BitVec.eq_of_toNat_eq
  have := (BitVec.ofInt 64 x ||| BitVec.twoPow 64 b).isLt
  generalize (BitVec.ofInt 64 x ||| BitVec.twoPow 64 b).toNat = m at *
  rw [BitVec.toNat_ofInt, IntKind.wrap_i64]
  omega
 rw [e, BitVec.getLsbD_or, BitVec.getLsbD_twoPow]
 by_cases h : j = b
 ·
  subst h; simp [hj]
 ·
  have : ¬ b = j := fun q => h q.symm
  simp [h, this]
theorem hasBit_add (lo hi : Int) (b j : Nat) (hb : b ≤ 127) : hasBit (addLo lo b) (addHi hi b) j = (hasBit lo hi j || decide (j = b)) := by
 unfold hasBit addLo addHi
 by_cases h1 : b < 64
 ·
  rw [if_pos h1, if_pos h1]
  by_cases h2 : j < 64
  ·
   rw [if_pos h2, if_pos h2, bit_orB lo b j h1 h2]
  ·
   rw [if_neg h2, if_neg h2, decide_eq_false (by omega), Bool.or_false]
 ·
  rw [if_neg h1, if_neg h1]
  by_cases h2 : j < 64
  ·
   rw [if_pos h2, if_pos h2, decide_eq_false (by omega), Bool.or_false]
  ·
   rw [if_neg h2, if_neg h2]
   by_cases h3 : j < 128
   ·
    rw [if_pos h3, if_pos h3, bit_orB hi (b - 64) (j - 64) (by omega) (by omega)]
    congr 1
    rw [decide_eq_decide]
    omega
   ·
    rw [if_neg h3, if_neg h3, decide_eq_false (by omega)]; rfl
theorem nsF_none (s : ByteArray) : ∀ (f i : Nat) (lo hi : Int), (∃ k, i ≤ k ∧ k < i + f ∧ ¬ byteAt s k ≤ 127) → nsF s f i lo hi = none
 | 0, i, lo, hi, ⟨k, h1, h2, _⟩ => by omega
 | f + 1, i, lo, hi, ⟨k, h1, h2, h3⟩ => by
  unfold nsF
  by_cases h : byteAt s i ≤ 127
  ·
   rw [if_pos h]
   have : k ≠ i := fun e => h3 (e ▸ h)
   exact nsF_none s f (i + 1) _ _ ⟨k, by omega, by omega, h3⟩
  ·
   rw [if_neg h]
theorem nsF_some (s : ByteArray) : ∀ (f i : Nat) (lo hi : Int), (∀ k, i ≤ k → k < i + f → byteAt s k ≤ 127) →
  ∃ lo' hi', nsF s f i lo hi = some (lo', hi') ∧ ∀ j, hasBit lo' hi' j = true ↔ (hasBit lo hi j = true ∨ ∃ k, i ≤ k ∧ k < i + f ∧ byteAt s k = j)
 | 0, i, lo, hi, _ => ⟨lo, hi, rfl, fun j => ⟨Or.inl, fun h => h.elim id (fun ⟨k, h1, h2, _⟩ => by omega)⟩⟩
 | f + 1, i, lo, hi, h => by
  unfold nsF
  rw [if_pos (h i (Nat.le_refl _) (by omega))]
  obtain ⟨lo', hi', e, hb⟩ := nsF_some s f (i + 1) (addLo lo (byteAt s i)) (addHi hi (byteAt s i)) (fun k h1 h2 => h k (by omega) (by omega))
  refine ⟨lo', hi', e, fun j => ?_⟩
  rw [hb j, hasBit_add _ _ _ _ (h i (Nat.le_refl _) (by omega)), Bool.or_eq_true, decide_eq_true_eq]
  constructor
  ·
   rintro ((h1 | h1) | ⟨k, h1, h2, h3⟩)
   ·
    exact Or.inl h1
   ·
    exact Or.inr ⟨i, Nat.le_refl _, by omega, h1.symm⟩
   ·
    exact Or.inr ⟨k, by omega, by omega, h3⟩
  ·
   rintro (h1 | ⟨k, h1, h2, h3⟩)
   ·
    exact Or.inl (Or.inl h1)
   ·
    by_cases e : k = i
    ·
     subst e; exact Or.inl (Or.inr h3.symm)
    ·
     exact Or.inr ⟨k, by omega, by omega, h3⟩
theorem hasBit_lt {lo hi : Int} {j : Nat} (h : hasBit lo hi j = true) : j < 128 := by
 unfold hasBit at h
 by_cases h1 : j < 64
 ·
  omega
 ·
  rw [if_neg h1] at h
  by_cases h2 : j < 128
  ·
   exact h2
  ·
   rw [if_neg h2] at h; cases h
theorem hasBit_zero (j : Nat) : hasBit 0 0 j = false := by
 unfold hasBit bitI
 have : BitVec.ofInt 64 0 = 0#64 := by rfl
 rw [this]
 simp
theorem sorted_eq : ∀ (a b : List Nat), a.Pairwise (· < ·) → b.Pairwise (· < ·) → (∀ x, x ∈ a ↔ x ∈ b) → a = b
 | [], [], _, _, _ => rfl
 | [], y :: b, _, _, h => by have := (h y).2 (by simp); simp at this
 | x :: a, [], _, _, h => by have := (h x).1 (by simp); simp at this
 | x :: a, y :: b, ha, hb, h => by
  rw [List.pairwise_cons] at ha hb
  have hxy : x = y := by
   have h1 := (h x).1 (by simp)
   have h2 := (h y).2 (by simp)
   rw [List.mem_cons] at h1 h2
   rcases h1 with h1 | h1
   ·
    exact h1
   rcases h2 with h2 | h2
   ·
    exact h2.symm
   have := hb.1 _ h1
   have := ha.1 _ h2
   omega
  subst hxy
  congr 1
  refine sorted_eq a b ha.2 hb.2 fun z => ⟨fun hz => ?_, fun hz => ?_⟩
  ·
   have h1 := (h z).1 (List.mem_cons_of_mem _ hz)
   have := ha.1 _ hz
   rw [List.mem_cons] at h1
   exact h1.resolve_left (by omega)
  ·
   have h1 := (h z).2 (List.mem_cons_of_mem _ hz)
   have := hb.1 _ hz
   rw [List.mem_cons] at h1
   exact h1.resolve_left (by omega)
def ascAt (s : ByteArray) (i : Nat) : Bool := decide (byteAt s i ≤ 127) && (decide (i = 0) || decide (byteAt s (i - 1) < byteAt s i))
def ascB (s : ByteArray) : Bool := (List.range s.size).all (ascAt s)
theorem ascB_iff {s : ByteArray} : ascB s = true ↔ ∀ i, i < s.size → byteAt s i ≤ 127 ∧ (0 < i → byteAt s (i - 1) < byteAt s i) := by
 unfold ascB
 rw [List.all_eq_true]
 constructor
 ·
  intro h i hi
  have := h i (List.mem_range.2 hi)
  unfold ascAt at this
  simp only [Bool.and_eq_true, Bool.or_eq_true, decide_eq_true_eq] at this
  exact ⟨this.1, fun h0 => this.2.resolve_left (by omega)⟩
 ·
  intro h i hi
  have := h i (List.mem_range.1 hi)
  unfold ascAt
  simp only [Bool.and_eq_true, Bool.or_eq_true, decide_eq_true_eq]
  refine ⟨this.1, ?_⟩
  rcases Nat.eq_zero_or_pos i with h0 | h0
  ·
   exact Or.inl h0
  ·
   exact Or.inr (this.2 h0)
theorem ascB_no {s : ByteArray} {i : Nat} (hi : i < s.size) (h : ascAt s i = false) : ascB s = false :=
 List.all_eq_false.2 ⟨i, List.mem_range.2 hi, by rw [h]; simp⟩
theorem asc_lt {s : ByteArray} (h : ∀ i, i < s.size → byteAt s i ≤ 127 ∧ (0 < i → byteAt s (i - 1) < byteAt s i)) : ∀ (d i : Nat), i + d + 1 < s.size → byteAt s i < byteAt s (i + d + 1)
 | 0, i, hi => by have := (h (i + 0 + 1) hi).2 (by omega); simpa using this
 | d + 1, i, hi => by
  have h1 := asc_lt h d i (by omega)
  have h2 := (h (i + (d + 1) + 1) hi).2 (by omega)
  rw [show i + (d + 1) + 1 - 1 = i + d + 1 by omega] at h2
  omega
theorem asc_size {s : ByteArray} (h : ascB s = true) : s.size ≤ 128 := by
 have h' := ascB_iff.1 h
 have : ∀ i, i < s.size → i ≤ byteAt s i := by
  intro i
  induction i with
  | zero => intro _; omega
  | succ n ih => intro hi; have := ih (by omega); have := (h' (n + 1) hi).2 (by omega); simp at this; omega
 rcases Nat.eq_zero_or_pos s.size with h0 | h0
 ·
  omega
 ·
  have h1 := this (s.size - 1) (by omega)
  have h2 := (h' (s.size - 1) (by omega)).1
  omega
def bytesL (s : ByteArray) : List Nat := (List.range s.size).map (byteAt s)
theorem csB_asc (lo hi : Int) (k : Nat) : (csB lo hi k).Pairwise (· < ·) := List.Pairwise.sublist List.filter_sublist List.pairwise_lt_range
theorem csText_list (lo hi : Int) : (csText lo hi).data.toList = (csB lo hi 128).map UInt8.ofNat := by unfold csText; simp
theorem txt_list (s : ByteArray) : s.data.toList = (bytesL s).map UInt8.ofNat := by
 apply List.ext_getElem
 ·
  simp [bytesL]
 ·
  intro i h1 h2
  have hi : i < s.size := by simpa using h1
  have := byteAt_eq s i hi
  simp only [bytesL, List.getElem_map, List.getElem_range]
  rw [← this]
  simp
  rfl
theorem ba_of {s t : ByteArray} (h : s.data.toList = t.data.toList) : s = t := by
 cases s; cases t
 simp at h
 congr
theorem asc_cset (s : ByteArray) : (nsOk s && decide (csText (nsLo s) (nsHi s) = s)) = ascB s := by
 by_cases hA : ∀ k, 0 ≤ k → k < 0 + s.size → byteAt s k ≤ 127
 ·
  obtain ⟨lo, hi, e, hb⟩ := nsF_some s s.size 0 0 0 hA
  have e' : ns s 0 0 0 = some (lo, hi) := by unfold ns; rw [Nat.sub_zero]; exact e
  have h1 : nsOk s = true := by unfold nsOk; rw [e']; rfl
  have h2 : nsLo s = lo := by unfold nsLo; rw [e']; rfl
  have h3 : nsHi s = hi := by unfold nsHi; rw [e']; rfl
  rw [h1, h2, h3, Bool.true_and]
  rw [Bool.eq_iff_iff, decide_eq_true_eq, ascB_iff]
  constructor
  ·
   intro hs i hi'
   refine ⟨hA i (by omega) (by omega), fun h0 => ?_⟩
   have hl := csText_list lo hi
   rw [hs] at hl
   have hp := csB_asc lo hi 128
   have hlen : (csB lo hi 128).length = s.size := by have := congrArg List.length hl; simpa using this.symm
   have hg : ∀ j (hj : j < s.size), byteAt s j = (csB lo hi 128)[j]'(by omega) := by
    intro j hj
    unfold byteAt
    rw [hl]
    have hlt := csB_lt lo hi 128 _ (List.getElem_mem (show j < (csB lo hi 128).length by omega))
    rw [List.getD_eq_getElem?_getD, List.getElem?_eq_getElem (by simp; omega)]
    simp
    omega
   rw [hg i hi', hg (i - 1) (by omega)]
   exact List.pairwise_iff_getElem.1 hp _ _ _ _ (by omega)
  ·
   intro h
   apply ba_of
   rw [csText_list, txt_list s]
   congr 1
   refine sorted_eq _ _ (csB_asc lo hi 128) ?_ fun x => ?_
   ·
    unfold bytesL
    rw [List.pairwise_iff_getElem]
    intro i j h1 h2 hij
    simp only [List.getElem_map, List.getElem_range]
    have := asc_lt h (j - i - 1) i (by simp at h2; omega)
    rw [show i + (j - i - 1) + 1 = j by omega] at this
    exact this
   ·
    unfold csB bytesL
    rw [List.mem_filter, List.mem_range, List.mem_map]
    constructor
    ·
     rintro ⟨h1, h2⟩
     rcases (hb x).1 h2 with h3 | ⟨k, -, h3, h4⟩
     ·
      rw [hasBit_zero] at h3; cases h3
     ·
      exact ⟨k, List.mem_range.2 (by omega), h4⟩
    ·
     rintro ⟨k, h1, h2⟩
     have h3 := (hb x).2 (Or.inr ⟨k, by omega, by have := List.mem_range.1 h1; omega, h2⟩)
     exact ⟨hasBit_lt h3, h3⟩
 ·
  have hB : ∃ k, 0 ≤ k ∧ k < 0 + s.size ∧ ¬ byteAt s k ≤ 127 := by
   by_cases hh : ∃ k, 0 ≤ k ∧ k < 0 + s.size ∧ ¬ byteAt s k ≤ 127
   ·
    exact hh
   ·
    exact absurd (fun k h1 h2 => by
     by_cases q : byteAt s k ≤ 127
     ·
      exact q
     ·
      exact absurd ⟨k, h1, h2, q⟩ hh) hA
  have e := nsF_none s s.size 0 0 0 hB
  have h1 : nsOk s = false := by unfold nsOk ns; rw [Nat.sub_zero, e]; rfl
  rw [h1, Bool.false_and]
  obtain ⟨k, -, h2, h3⟩ := hB
  exact (ascB_no (i := k) (by omega) (by unfold ascAt; rw [decide_eq_false h3]; rfl)).symm
end Go.Proofs.YtgofbnmablgedaaGreatDoor
