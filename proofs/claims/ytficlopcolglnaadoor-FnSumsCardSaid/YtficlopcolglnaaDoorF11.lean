/- Comparisons: of three exactly one holds. Two boxes of values. -/
import Derived.Test.YtficlopcolglnaaDoorF10
import Derived.Test.YtficlopcolglnaaDoorE28
namespace Go.Proofs.YtficlopcolglnaaDoor
set_option linter.unusedVariables false
set_option linter.unusedSimpArgs false
set_option maxRecDepth 100000
open Go.RowKit

def Three (l s m : Int) : Prop := (0 < l ∧ l ≤ 1000 ∧ s = l ∧ m = l) ∨ (-1 ≤ l ∧ l ≤ 0 ∧ -1 ≤ s ∧ s ≤ 0 ∧ -1 ≤ m ∧ m ≤ 0 ∧ l + s + m = -2)
def hc (b : Bool) : Int := if b then 0 else -1
theorem three_holds (c : Int) : Three (hc (holdsK 0 c)) (hc (holdsK 2 c)) (hc (holdsK 4 c)) := by
  right
  rcases (show c < 0 ∨ c = 0 ∨ 0 < c by omega) with h | h | h
  · have h1 : ¬ c = 0 := by omega
    have h2 : ¬ 0 < c := by omega
    simp [hc, holdsK, h, h1, h2]
  · subst h; simp [hc, holdsK]
  · have h1 : ¬ c = 0 := by omega
    have h2 : ¬ c < 0 := by omega
    simp [hc, holdsK, h, h1, h2]
theorem biv_bad {op : Int} {a b : VVal} (h : wellB a = false ∨ wellB b = false) : (bivR op a b).2 = 205 := by
  unfold bivR
  rw [if_pos (by rcases h with h | h; exact .inr (.inr (.inr (.inr (.inl h)))); exact .inr (.inr (.inr (.inr (.inr h)))))]
theorem biv_good {op : Int} {a b : VVal} (ha : wellB a = true) (hb : wellB b = true) (h1 : ¬ opT op = ByteArray.empty) (h2 : 20 ≤ op) (h3 : op ≤ 50) : bivR op a b = binR op a b := by
  unfold bivR
  rw [if_neg]
  rintro (h | h | h | h | h | h)
  · exact h1 h
  · omega
  · omega
  · omega
  · rw [ha] at h; cases h
  · rw [hb] at h; cases h
theorem num_code (k : Int) (a b : VVal) (h1 : 30 ≤ k) (h2 : k ≤ 35) : (numR k a b).2 = if tiB a && tiB b then hc (holdsK (k - 30) (signI (tiN a) (tiN b))) else 101 := by
  unfold numR hc
  split
  · (try rw [if_pos h1])
    split <;> simp_all
  · rfl
theorem txt_code (k : Int) (a b : VVal) (h1 : 40 ≤ k) (h2 : k ≤ 45) : (txtR k a b).2 = if ttB a && ttB b then hc (holdsK (k - 40) (cmpT (ttT a) (ttT b))) else 103 := by
  have h50 : ¬ k = 50 := by omega
  unfold txtR hc
  split
  · (try rw [if_neg h50])
    split <;> simp_all
  · rfl
theorem bin_txt (k : Int) (a b : VVal) (h1 : 40 ≤ k) (h2 : k ≤ 45) : binR k a b = txtR k a b := by
  unfold binR
  rw [if_neg (by omega), if_neg (by omega), if_pos (by omega)]
theorem order_law (a b : VVal) (base : Int) (h : base = 30 ∨ base = 40) : Three (bivR base a b).2 (bivR (base + 2) a b).2 (bivR (base + 4) a b).2 := by
  cases ha : wellB a
  · rw [biv_bad (.inl ha), biv_bad (.inl ha), biv_bad (.inl ha)]; left; omega
  cases hb : wellB b
  · rw [biv_bad (.inr hb), biv_bad (.inr hb), biv_bad (.inr hb)]; left; omega
  rcases h with rfl | rfl
  · rw [biv_good ha hb (by decide +kernel) (by omega) (by omega), biv_good ha hb (by decide +kernel) (by omega) (by omega), biv_good ha hb (by decide +kernel) (by omega) (by omega)]
    unfold binR
    rw [if_pos (by omega), if_pos (by omega), if_pos (by omega), num_code _ _ _ (by omega) (by omega), num_code _ _ _ (by omega) (by omega), num_code _ _ _ (by omega) (by omega)]
    split
    · exact three_holds _
    · left; omega
  · rw [biv_good ha hb (by decide +kernel) (by omega) (by omega), biv_good ha hb (by decide +kernel) (by omega) (by omega), biv_good ha hb (by decide +kernel) (by omega) (by omega)]
    rw [bin_txt _ _ _ (by omega) (by omega), bin_txt _ _ _ (by omega) (by omega), bin_txt _ _ _ (by omega) (by omega), txt_code _ _ _ (by omega) (by omega), txt_code _ _ _ (by omega) (by omega), txt_code _ _ _ (by omega) (by omega)]
    split
    · exact three_holds _
    · left; omega
theorem two_boxes' {w w2 : World} {t1 t2 : TypeId} {x0 x1 x2 x3 x4 x5 y0 y1 y2 y3 y4 y5 : Value} (h : Bel ((w.alloc (.cells #[x0, x1, x2, x3, x4, x5] t1)).alloc (.cells #[y0, y1, y2, y3, y4, y5] t2)) w2) :
    Six w2 w.heap.size x0 x1 x2 x3 x4 x5 ∧ Six w2 (w.heap.size + 1) y0 y1 y2 y3 y4 y5 ∧ w.heap.size + 1 < w2.heap.size := by
  have h1 := h.box w.heap.size (by simp; omega)
  have h2 := h.box (w.heap.size + 1) (by simp)
  have h3 := h.size
  simp at h3
  refine ⟨⟨?_, ?_, ?_, ?_, ?_, ?_⟩, ⟨?_, ?_, ?_, ?_, ?_, ?_⟩, by omega⟩
  all_goals first | (rw [h1]; simp; done) | (rw [h2]; simp; done)
/-- BinaryValue of both sides at values written out. -/
theorem biv_ex (op k n i : Int) (t : ByteArray) (lo hi : Int) (k' n' i' : Int) (t' : ByteArray) (lo' hi' : Int) (ha : (VVal.mk k n i t lo hi).Ok) (hb : (VVal.mk k' n' i' t' lo' hi').Ok) : ∃ (u0 u1 u2 : Int) (u3 : ByteArray) (u4 u5 : Int), (bivR op ⟨k, n, i, t, lo, hi⟩ ⟨k', n', i', t', lo', hi'⟩).1 = ⟨u0, u1, u2, u3, u4, u5⟩ ∧
    (∀ w, Tabs w → Calls Tryd.prog 42 #[.int .i64 op, .agg #[.int .i64 k, .int .i64 n, .int .i64 i, .string t, .int .i64 lo, .int .i64 hi], .agg #[.int .i64 k', .int .i64 n', .int .i64 i', .string t', .int .i64 lo', .int .i64 hi']] w fun e w' => e = .returned (.tuple #[.agg #[.int .i64 u0, .int .i64 u1, .int .i64 u2, .string u3, .int .i64 u4, .int .i64 u5], .int .i64 (bivR op ⟨k, n, i, t, lo, hi⟩ ⟨k', n', i', t', lo', hi'⟩).2]) ∧ Bel w w') ∧
    (∀ w, Calls Tryd.prog 43 #[.int .i64 op, .agg #[.int .i64 k, .int .i64 n, .int .i64 i, .string t, .int .i64 lo, .int .i64 hi], .agg #[.int .i64 k', .int .i64 n', .int .i64 i', .string t', .int .i64 lo', .int .i64 hi']] w fun e w' => e = .returned (.tuple #[.agg #[.int .i64 u0, .int .i64 u1, .int .i64 u2, .string u3, .int .i64 u4, .int .i64 u5], .int .i64 (bivR op ⟨k, n, i, t, lo, hi⟩ ⟨k', n', i', t', lo', hi'⟩).2]) ∧ Bel w w') :=
  ⟨_, _, _, _, _, _, rfl, fun w h => implBinaryValue_any op _ _ w ha hb h.1 h.2, fun w => specBinaryValue_any op _ _ w ha hb⟩

end Go.Proofs.YtficlopcolglnaaDoor
