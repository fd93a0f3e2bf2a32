/- The text that a mark is: laws.markText. -/
import Derived.Test.YtdjbfneniohaaaaOw
import Derived.Laws.IdiomStrings
namespace Go.Proofs.Ytdjbfneniohaaaa
set_option linter.unusedVariables false
set_option linter.unusedSimpArgs false
set_option maxRecDepth 100000
open Go.RowKit

theorem digT_zero (f : Nat) (t : ByteArray) : digT f 0 t = t := by cases f <;> simp [digT]
theorem digT_pos (f m : Nat) (t : ByteArray) (h : m ≠ 0) : digT (f + 1) m t = digT f (m / 10) (⟨#[UInt8.ofNat (48 + m % 10)]⟩ ++ t) := by rw [digT, if_neg h]
def DigRel (K m f : Nat) (t : ByteArray) : Prop := digT f m t = digT 64 K ByteArray.empty ∧ m < 10 ^ f ∧ t.size + f ≤ 64 ∧ m < 9223372036854775808
theorem DigRel.start {K : Nat} (h : K < 9223372036854775808) : DigRel K K 64 ByteArray.empty := ⟨rfl, Nat.lt_of_lt_of_le h (by decide), by decide, h⟩
theorem DigRel.next {K m f : Nat} {t : ByteArray} (h : DigRel K m f t) (hm : m ≠ 0) : ∃ f', DigRel K (m / 10) f' (⟨#[UInt8.ofNat (48 + m % 10)]⟩ ++ t) := by
  obtain ⟨h1, h2, h3, h4⟩ := h
  cases f with
  | zero => simp at h2; omega
  | succ f =>
    refine ⟨f, by rw [← digT_pos f m t hm]; exact h1, ?_, ?_, by omega⟩
    · rw [Nat.pow_succ] at h2
      exact Nat.div_lt_of_lt_mul (by rw [Nat.mul_comm]; exact h2)
    · have e : ((⟨#[UInt8.ofNat (48 + m % 10)]⟩ : ByteArray) ++ t).size = 1 + t.size := by rw [ByteArray.size_append]; rfl
      omega
theorem DigRel.done {K f : Nat} {t : ByteArray} (h : DigRel K 0 f t) : digT 64 K ByteArray.empty = t := by rw [← h.1, digT_zero]
/-- A list's marks are no more than its weight says. -/
theorem cntR_le_of {α : Type} (D : α → List Dat) : ∀ (l : List α), (∀ i (hi : i < l.length), Dat.cntC (D l[i]) ≤ 16 + 16 * Dat.wtL (D l[i])) → Dat.cntR (l.map D) ≤ 16 * (l.length + Dat.wtR (l.map D))
  | [], _ => by simp [Dat.cntR, Dat.wtR]
  | x :: r, h => by
    have h0 := h 0 (by simp)
    have h1 := cntR_le_of D r (fun i hi => h (i + 1) (by simpa using hi))
    simp only [List.getElem_cons_zero] at h0
    simp only [List.map_cons, Dat.cntR, Dat.wtR, List.length_cons]
    omega
theorem cntR_strs : ∀ (l : List ByteArray), Dat.cntR (l.map fun x => [Dat.str x]) = l.length
  | [] => rfl
  | x :: r => by
    simp only [List.map_cons, Dat.cntR, Dat.cntC, Dat.cnt, List.length_cons, cntR_strs r]
    omega
set_option maxHeartbeats 1000000 in
theorem markText_any (k : Int) (w : World) (hk : k ≤ 4611686018427387904) (hk0 : 0 ≤ k) :
    Calls Try.prog 41 #[.int .i64 k] w fun e w' => e = .returned (.string (markT k)) ∧ Bel w w' := by
  rcases Int.lt_or_le 0 k with h | h
  · obtain ⟨K, rfl⟩ := Int.eq_ofNat_of_zero_le hk0
    have d1 : decide ((K : Int) ≤ 0) = false := by simp; omega
    have HK := hide (DigRel.start (K := K) (by omega))
    have HT := hide (show markT (K : Int) = ⟨#[109]⟩ ++ digT 64 K ByteArray.empty by unfold markT; rw [if_neg (by omega), Int.toNat_natCast])
    go_enter Try.func41, Try.ntmps41
    go_wp2_with (fail)
    go_loopw [0, 3] (fun kv tv wr => ∃ (m f : Nat) (t : ByteArray), kv = .int .i64 m ∧ tv = .string t ∧ Hid (DigRel K m f t) ∧ Bel w wr) (fun kv _ _ => (intOf kv).toNat)
    case atStart => exact ⟨K, 64, ByteArray.empty, rfl, rfl, HK.out, bl⟩
    case round =>
      obtain ⟨m, f, t, rfl, rfl, hd, hbw⟩ := hrel
      have hm := hd.out.2.2.2
      have ht := hd.out.2.2.1
      rcases Nat.eq_zero_or_pos m with rfl | hpos
      · have HD := hide hd.out.done
        go_wp2_with (fail)
        all_goals
          go_returns
          exact ⟨by rw [HT.out, HD.out]; first | done | rfl, bl⟩
      · have d2 : decide (0 < (m : Int)) = true := by simp; omega
        obtain ⟨f', hn⟩ := hd.out.next (by omega)
        have HN := hide hn
        clear hn
        have hc : (convert 22 9 (.slice (some ⟨wr.heap.size, 0, none⟩) 1 1)).run Try.prog (wr.alloc (.cells #[.int .u8 (48 + (m : Int) % 10)] 5)) = .ok (.string ⟨#[UInt8.ofNat (48 + m % 10)]⟩) (wr.alloc (.cells #[.int .u8 (48 + (m : Int) % 10)] 5)) := by
          refine run_convert_bytes_back (P := Try.prog) (wr.alloc (.cells #[.int .u8 (48 + (m : Int) % 10)] 5)) _ _ 5 ⟨wr.heap.size, 0, none⟩ 1 [UInt8.ofNat (48 + m % 10)] Try.underlying22 Try.underlying5 Try.underlying9 (fun j hj => ?_)
          obtain rfl : j = 0 := by simpa using hj
          rw [show (⟨wr.heap.size, 0, none⟩ : Addr).add 0 = ⟨wr.heap.size, 0, none⟩ from rfl, World.cell?_alloc_mark]
          simp only [List.getElem?_toArray, List.getElem?_cons_zero, List.getElem_cons_zero, Option.some.injEq, Value.int.injEq, true_and]
          rw [UInt8.toNat_ofNat']
          omega
        obtain ⟨x, hx⟩ : ∃ x, UInt8.ofNat (48 + m % 10) = x := ⟨_, rfl⟩
        simp only [hx] at hc HN
        clear hx
        have hz : m / 10 < m := Nat.div_lt_self hpos (by omega)
        go_wp2_with (fail)
        go_roundw
        case rel => exact ⟨m / 10, f', _, by go_num, rfl, HN.out, bl⟩
        case measure => simp [intOf]; omega
  · obtain rfl : k = 0 := by omega
    go_enter Try.func41, Try.ntmps41
    go_wp2_with (fail)
    all_goals
      go_returns
      exact ⟨rfl, bl⟩
end Go.Proofs.Ytdjbfneniohaaaa
