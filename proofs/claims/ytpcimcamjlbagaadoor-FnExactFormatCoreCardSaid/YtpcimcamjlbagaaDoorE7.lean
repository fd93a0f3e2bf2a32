/- FormatInt of the reference. -/
import Derived.Test.YtpcimcamjlbagaaDoorE0
import Derived.Test.YtpcimcamjlbagaaDoorAh
import Derived.Laws.IdiomStrings
namespace Go.Proofs.YtpcimcamjlbagaaDoor
set_option linter.unusedVariables false
set_option linter.unusedSimpArgs false
set_option maxRecDepth 100000
open Go.RowKit

/-- The digits of a number, none for 0. -/
def natD (m : Nat) : List UInt8 := if m = 0 then [] else Lib.decDigits m
theorem natD_step {m : Nat} (h : m ≠ 0) : natD m = natD (m / 10) ++ [UInt8.ofNat (48 + m % 10)] := by
  unfold natD
  rw [if_neg h]
  by_cases h1 : m < 10
  · rw [Lib.decDigits_one h1, if_pos (by omega), show m % 10 = m by omega]; rfl
  · rw [if_neg (by omega)]
    rw [Lib.decDigits, dif_neg h1]
theorem nDig_le : ∀ (k u : Nat), u < 10 ^ (k + 1) → Lib.nDigits u ≤ k + 1
  | 0, u, h => by rw [Lib.nDigits_small (by simpa using h)]; omega
  | k + 1, u, h => by
    by_cases h1 : u < 10
    · rw [Lib.nDigits_small h1]; omega
    · rw [Lib.nDigits_big h1]
      have := nDig_le k (u / 10) (by rw [Nat.div_lt_iff_lt_mul (by omega), ← Nat.pow_succ]; exact h)
      omega

set_option maxHeartbeats 2000000 in
theorem specFormatInt_any (n : Int) (w : World) (hn : InI n) :
    Calls Tryd.prog 13 #[.int .i64 n] w fun e w' => e = .returned (.string ⟨(Lib.itoa n).toArray⟩) ∧ Bel w w' := by
  unfold InI at hn
  by_cases h0 : n = 0
  · subst h0
    rw [show (⟨(Lib.itoa 0).toArray⟩ : ByteArray) = ⟨#[48]⟩ by decide +kernel]
    go_enter Tryd.func13, Tryd.ntmps13
    go_wp2
    all_goals
      go_returns
      exact ⟨rfl, bl⟩
  · have hlen : (Lib.decDigits n.natAbs).length ≤ 20 := by
      rw [Lib.decDigits_length]
      exact nDig_le 19 _ (by omega)
    go_enter Tryd.func13, Tryd.ntmps13
    go_wp2_with (fail)
    go_loopw [0, 4] (fun v o wr => ∃ (m : Int) (t : ByteArray), v = .int .i64 m ∧ o = .string t ∧ InI m ∧ Hid (natD m.natAbs ++ t.data.toList = Lib.decDigits n.natAbs) ∧ t.size ≤ 20 ∧ Bel w wr) (fun v _ _ => (intOf v).natAbs)
    case atStart => exact ⟨n, ByteArray.empty, rfl, rfl, hn, by unfold natD; rw [if_neg (by omega)]; exact List.append_nil _, by decide, bl⟩
    case round =>
      obtain ⟨m, t, rfl, rfl, hm, hE, ht, hbw⟩ := hrel
      unfold InI at hm
      by_cases hz : m = 0
      · subst hz
        have hE0 : t.data.toList = Lib.decDigits n.natAbs := hE.out
        have hT : t = ⟨(Lib.decDigits n.natAbs).toArray⟩ := by rw [← hE0]
        by_cases hs : n < 0
        · have hR : (⟨(Lib.itoa n).toArray⟩ : ByteArray) = (⟨#[45]⟩ : ByteArray) ++ t := by
            rw [hT]
            unfold Lib.itoa
            rw [if_pos hs]
            apply ByteArray.ext
            simp
          replace hR := hide hR
          clear hT
          go_wp2_with (fail)
          all_goals
            go_returns
            exact ⟨by rw [hR.out]; rfl, bl⟩
        · have hR : (⟨(Lib.itoa n).toArray⟩ : ByteArray) = t := by
            rw [hT]
            unfold Lib.itoa
            rw [if_neg hs, show n.natAbs = n.toNat by omega]
          replace hR := hide hR
          clear hT
          go_wp2_with (fail)
          all_goals
            go_returns
            exact ⟨by rw [hR.out]; rfl, bl⟩
      · have hq : (m.tdiv 10).natAbs = m.natAbs / 10 := Int.natAbs_tdiv m 10
        have hr : (m.tmod 10).natAbs = m.natAbs % 10 := Int.natAbs_tmod m 10
        have hw1 : IntKind.i64.wrap (m.tdiv 10) = m.tdiv 10 := by rw [IntKind.wrap_i64] <;> omega
        have hw2 : IntKind.i64.wrap (m.tmod 10) = m.tmod 10 := by rw [IntKind.wrap_i64] <;> omega
        have hcv : ∀ d : Int, d = ((m.natAbs % 10 : Nat) : Int) → (convert 44 9 (.slice (some ⟨wr.heap.size, 0, none⟩) 1 1)).run Tryd.prog (wr.alloc (.cells #[.int .u8 (48 + d)] 5)) = .ok (.string ⟨#[UInt8.ofNat (48 + m.natAbs % 10)]⟩) (wr.alloc (.cells #[.int .u8 (48 + d)] 5)) := by
          intro d hd
          refine run_convert_bytes_back (P := Tryd.prog) (wr.alloc (.cells #[.int .u8 (48 + d)] 5)) _ _ 5 ⟨wr.heap.size, 0, none⟩ 1 [UInt8.ofNat (48 + m.natAbs % 10)] Tryd.underlying44 Tryd.underlying5 Tryd.underlying9 (fun j hj => ?_)
          obtain rfl : j = 0 := by simpa using hj
          rw [show (⟨wr.heap.size, 0, none⟩ : Addr).add 0 = ⟨wr.heap.size, 0, none⟩ from rfl, World.cell?_alloc_mark, hd]
          simp only [List.getElem?_toArray, List.getElem?_cons_zero, List.getElem_cons_zero, Option.some.injEq, Value.int.injEq, true_and]
          rw [UInt8.toNat_ofNat']
          omega
        have hE2 : natD (m.tdiv 10).natAbs ++ ((⟨#[UInt8.ofNat (48 + m.natAbs % 10)]⟩ : ByteArray) ++ t).data.toList = Lib.decDigits n.natAbs := by
          rw [hq, ← hE.out, natD_step (show m.natAbs ≠ 0 by omega)]
          simp
        have ht2 : ((⟨#[UInt8.ofNat (48 + m.natAbs % 10)]⟩ : ByteArray) ++ t).size ≤ 20 := by
          have h1 := congrArg List.length hE.out
          rw [natD_step (show m.natAbs ≠ 0 by omega), List.length_append, List.length_append, List.length_singleton] at h1
          have h2 : t.data.toList.length = t.size := Array.length_toList
          rw [ByteArray.size_append]
          have h3 : (⟨#[UInt8.ofNat (48 + m.natAbs % 10)]⟩ : ByteArray).size = 1 := rfl
          omega
        obtain ⟨x, hx⟩ : ∃ x, UInt8.ofNat (48 + m.natAbs % 10) = x := ⟨_, rfl⟩
        simp only [hx] at hcv hE2 ht2
        clear hx
        replace hE2 := hide hE2
        by_cases hs : m.tmod 10 < 0
        · have hc := hcv (-m.tmod 10) (by omega)
          clear hcv
          go_wp2_with (fail)
          exact ⟨⟨m.tdiv 10, _, rfl, rfl, ⟨by omega, by omega⟩, hE2, ht2, bl⟩, by simp only [intOf]; omega⟩
        · have hc := hcv (m.tmod 10) (by omega)
          clear hcv
          go_wp2_with (fail)
          exact ⟨⟨m.tdiv 10, _, rfl, rfl, ⟨by omega, by omega⟩, hE2, ht2, bl⟩, by simp only [intOf]; omega⟩

end Go.Proofs.YtpcimcamjlbagaaDoor
