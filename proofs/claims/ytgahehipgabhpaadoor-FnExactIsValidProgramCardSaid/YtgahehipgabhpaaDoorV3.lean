/- Valid cores: the reference: plain. -/
import Derived.Test.YtgahehipgabhpaaDoorV2
namespace Go.Proofs.YtgahehipgabhpaaDoor
set_option linter.unusedVariables false
set_option linter.unusedSimpArgs false
set_option maxRecDepth 100000
open Go.RowKit

/-- The reference's test of a text that isn't the text of a set. -/
def txt2 (k : Int) (t : ByteArray) : Bool := (decide (k = 2) || decide (k = 3) || decide (t.size = 0)) && decide (t.size ≤ 128) && (!decide (k = 2) || decide (t.size ≤ 120))
theorem txt2_no {k : Int} {t : ByteArray} (h : txt2 k t = false) : txtOk k t = false := by
  unfold txtOk
  by_cases h2 : k = 2
  · subst h2
    rw [if_pos rfl]
    by_cases q : t.size ≤ 120
    · have q2 : t.size ≤ 128 := by omega
      unfold txt2 at h
      simp [q, q2] at h
    · exact decide_eq_false q
  · rw [if_neg h2]
    by_cases h3 : k = 3
    · subst h3
      rw [if_pos rfl]
      cases ha : ascB t
      · rfl
      · have := asc_size ha
        unfold txt2 at h
        simp [this] at h
    · rw [if_neg h3]
      by_cases q : t.size = 0
      · unfold txt2 at h
        simp [h2, q] at h
      · exact decide_eq_false q
theorem txt2_yes {k : Int} {t : ByteArray} (h : txt2 k t = true) (h3 : ¬ k = 3) : txtOk k t = true := by
  unfold txtOk
  rw [if_neg h3]
  unfold txt2 at h
  by_cases h2 : k = 2
  · rw [if_pos h2]
    by_cases q : t.size ≤ 120
    · exact decide_eq_true q
    · simp [h2, q] at h
  · rw [if_neg h2]
    by_cases q : t.size = 0
    · exact decide_eq_true q
    · simp [h2, h3, q] at h
theorem vld_no {sl gl ro re k op n li : Int} {t : ByteArray} {ks : List TCore} {loop made d : Bool} (h : (hdOk k op li ks.length && numOk sl gl ro re k n && opOk k op && txtOk k t && ctxOk k loop made && kidsOk op ks) = false) :
    (d && (TCore.mk k op n li t ks).vld sl gl ro re loop made) = false := by rw [vld_mk, h, Bool.false_and, Bool.and_false]
theorem vld_kid {sl gl ro re k op n li deep : Int} {t : ByteArray} {ks : List TCore} {loop made : Bool} (m : Nat) (hm : m < ks.length) (h : (decide (deep + 1 + (ks[m].dep : Int) ≤ 401) && ks[m].vld sl gl ro re (innerB k m loop) (made || decide (k = 26))) = false) :
    (decide (deep + ((TCore.mk k op n li t ks).dep : Int) ≤ 401) && (TCore.mk k op n li t ks).vld sl gl ro re loop made) = false := by
  rw [Bool.and_eq_false_iff] at h ⊢
  rcases h with h | h
  · refine Or.inl ?_
    rw [decide_eq_false_iff_not] at h ⊢
    have := TCore.dep_le hm
    simp only [TCore.dep]
    omega
  · refine Or.inr ?_
    rw [vld_mk, TCore.vlds_at (m := m) (i := 0) hm (by rw [Nat.zero_add]; exact h), Bool.and_false]
theorem vld_yes {sl gl ro re k op n li deep : Int} {t : ByteArray} {ks : List TCore} {loop made : Bool} (hd : deep ≤ 400) (h : (hdOk k op li ks.length && numOk sl gl ro re k n && opOk k op && txtOk k t && ctxOk k loop made && kidsOk op ks) = true)
    (hk : ∀ m (hm : m < ks.length), (decide (deep + 1 + (ks[m].dep : Int) ≤ 401) && ks[m].vld sl gl ro re (innerB k m loop) (made || decide (k = 26))) = true) :
    (decide (deep + ((TCore.mk k op n li t ks).dep : Int) ≤ 401) && (TCore.mk k op n li t ks).vld sl gl ro re loop made) = true := by
  rw [vld_mk, h, TCore.vlds_all (i := 0) fun m hm => by rw [Nat.zero_add]; exact (Bool.and_eq_true_iff.1 (hk m hm)).2]
  have : TCore.deps ks ≤ (400 - deep).toNat := (TCore.deps_iff _ ks).2 fun x hx => by
    obtain ⟨m, hm, rfl⟩ := List.mem_iff_getElem.1 hx
    have := (Bool.and_eq_true_iff.1 (hk m hm)).1
    rw [decide_eq_true_eq] at this
    omega
  have h5 : deep + ((TCore.mk k op n li t ks).dep : Int) ≤ 401 := by simp only [TCore.dep]; omega
  rw [decide_eq_true h5]
  rfl
theorem arity79 : opArity 79 = (2, 2) := by decide +kernel
theorem arity81 : opArity 81 = (1, 1) := by decide +kernel
theorem ks_two {k op li : Int} {ks : List TCore} (h : hdOk k op li ks.length = true) (hk : k = 11) (ho : op = 79) : ∃ a b, ks = [a, b] := by
  subst hk ho
  unfold hdOk lohi at h
  rw [if_pos rfl, arity79] at h
  simp at h
  match ks, h with
  | [a, b], _ => exact ⟨a, b, rfl⟩
  | [], h => simp at h
  | [a], h => simp at h
  | a :: b :: c :: r, h => simp at h; omega
theorem ks_one {k op li : Int} {ks : List TCore} (h : hdOk k op li ks.length = true) (hk : k = 11) (ho : op = 81) : ∃ a, ks = [a] := by
  subst hk ho
  unfold hdOk lohi at h
  rw [if_pos rfl, arity81] at h
  simp at h
  match ks, h with
  | [a], _ => exact ⟨a, rfl⟩
  | [], h => simp at h
  | a :: b :: r, h => simp at h; omega
abbrev SVld (t : TCore) : Prop := ∀ (S : Nat → Prop) (w : World) (vs : List Value) (m0 m1 m2 c0 c1 c2 : Nat) (A0 A1 A2 : Option Addr) (mn sl deep : Int) (loop made : Bool), Dat.HoldVals w S t.D vs → m0 ≤ 1000000000 → m1 ≤ 1000000000 → m2 ≤ 1000000000 → 0 ≤ sl → sl ≤ 1000000000 → 1 ≤ deep → deep ≤ 401 →
  Calls Tryd.prog 16 #[.agg #[.slice A0 m0 c0, .slice A1 m1 c1, .slice A2 m2 c2, .int .i64 mn], .int .i64 sl, .agg vs.toArray, .bool loop, .bool made, .int .i64 deep] w fun e w' => e = .returned (.bool (decide (deep + (t.dep : Int) ≤ 401) && t.vld sl m2 m0 m1 loop made)) ∧ Bel w w'

end Go.Proofs.YtgahehipgabhpaaDoor
