/- A text in quotes: the walks of both sides. -/
import Derived.Test.YtpcimcamjlbagaaDoorQa
import Derived.Deep.AppendLies
namespace Go.Proofs.YtpcimcamjlbagaaDoor
set_option linter.unusedVariables false
set_option linter.unusedSimpArgs false
set_option maxRecDepth 100000
open Go.RowKit

theorem digN (n : Nat) (h1 : n < 16) : ∀ h, ((⟨#[48, 49, 50, 51, 52, 53, 54, 55, 56, 57, 97, 98, 99, 100, 101, 102]⟩ : ByteArray)[n]'h).toNat = hexd n := by
  have : ∀ y : Fin 16, ∀ h, ((⟨#[48, 49, 50, 51, 52, 53, 54, 55, 56, 57, 97, 98, 99, 100, 101, 102]⟩ : ByteArray)[y.val]'h).toNat = hexd y.val := by decide +kernel
  exact this ⟨n, h1⟩
theorem and15 (x : Nat) (h : x < 256) : bits .and .u8 (x : Int) 15 = ((x : Int) % 16) := by
  have : ∀ y : Fin 256, bits .and .u8 (y.val : Int) 15 = ((y.val : Int) % 16) := by decide +kernel
  exact this ⟨x, h⟩
theorem qtL_step (q : Nat) (s : ByteArray) (k : Nat) : qtL q s (k + 1) = qtL q s k ++ escB q (byteAt s k) := rfl

set_option maxHeartbeats 4000000 in
theorem l4Quote_any (s : ByteArray) (q : Nat) (w : World) (hq : q < 256) (hs : s.size ≤ 300000000) :
    Calls Tryd.prog 22 #[.string s, .int .u8 q] w fun e w' => e = .returned (.string (qt q s)) ∧ Bel w w' := by
  obtain ⟨i0, hi0, iz0, iz1, iz2⟩ := info_parts infoQ8
  go_enter Tryd.func22, Tryd.ntmps22
  go_wp2_with (fail)
  go_loopw [5, 6, 7] (fun v i _ wr => ∃ k : Nat, i = .int .i64 k ∧ k ≤ s.size ∧ wr.ownsRow w.heap.size 5 1 v (qtL q s k).length (ByL (qtL q s k)) ∧ Bel w wr) (fun _ i _ _ => s.size - (intOf i).toNat)
  case atStart => exact ⟨0, rfl, by omega, own_new w _ _ 1 #[.int .u8 q] (Nat.le_refl _) rfl (by unfold maxLen; omega), bl⟩
  case round =>
    obtain ⟨k, rfl, hk, hown, hbw⟩ := hrel
    have hql := qtL_len q s k
    by_cases h : k < s.size
    · have hd : decide ((k : Int) < (s.size : Int)) = true := by simp; omega
      have hB := byteAt_eq s k h
      have hbl := byteAt_lt s k
      rw [← hB] at hbl
      have HBt := hide hB
      clear hB
      rcases (show s[k].toNat = q ∨ (¬ s[k].toNat = q ∧ s[k].toNat = 92) ∨ (¬ s[k].toNat = q ∧ ¬ s[k].toNat = 92 ∧ s[k].toNat = 10) ∨ (¬ s[k].toNat = q ∧ ¬ s[k].toNat = 92 ∧ ¬ s[k].toNat = 10 ∧ s[k].toNat = 9) ∨ (¬ s[k].toNat = q ∧ ¬ s[k].toNat = 92 ∧ ¬ s[k].toNat = 10 ∧ ¬ s[k].toNat = 9 ∧ s[k].toNat < 32) ∨ (¬ s[k].toNat = q ∧ ¬ s[k].toNat = 92 ∧ ¬ s[k].toNat = 10 ∧ ¬ s[k].toNat = 9 ∧ 126 < s[k].toNat) ∨ (¬ s[k].toNat = q ∧ ¬ s[k].toNat = 92 ∧ ¬ s[k].toNat = 10 ∧ ¬ s[k].toNat = 9 ∧ 32 ≤ s[k].toNat ∧ s[k].toNat ≤ 126) by omega) with hc | hc | hc | hc | hc | hc | hc
      · have HE : Hid (escB q (byteAt s k) = [92, byteAt s k]) := by show _ = _; rw [← HBt.out]; unfold escB; rw [if_pos (by omega)]
        have f1 : ((s[k].toNat : Int) == (q : Int)) = true := by simp [hc]
        clear hc
        go_wp2_with (at_builtin; (go_loud (refine wpList_append_own _ rfl _ _ 44 rfl w.heap.size 5 i0 (.int .u8 0) 1 1 Tryd.underlying44 hi0 iz0 iz1 iz2 rfl (by decide) _ _ _ rfl (hown.alloc _) ⟨wr.heap.size, 0, none⟩ 2 2 [.int .u8 92, .int .u8 (s[k].toNat : Int)] rfl rfl ?c1 ?c2 ?c3 ?c4 ?c5 ?_)))
        case c1 =>
          intro j u hj
          match j, hj with
          | 0, hj => simp at hj; subst hj; simp [Addr.add]
          | 1, hj => simp at hj; subst hj; simp [Addr.add]
        case c2 => intro u hu; simp at hu; rcases hu with rfl | rfl <;> rfl
        case c3 => have := qtL_len q s k; unfold maxLen; omega
        case c4 => have := qtL_len q s k; omega
        case c5 => have := hbw.size; simp; omega
        intro v' w9 hown9 hgrow _
        have hbw9 : Bel w w9 := Below.grown (by show Bel w _; exact bl) hgrow (by have := hbw.size; simp; omega) (fun x hx => by have := (hown.lt x hx).1; omega)
        have hown : w9.ownsRow w.heap.size 5 1 v' (qtL q s (k + 1)).length (ByL (qtL q s (k + 1))) := by
          rw [qtL_step, HE.out]; (try rw [← HBt.out]); rw [ByL_append, List.length_append]; exact hown9
        clear hgrow hown9
        go_wp2_with (fail)
        exact ⟨⟨k + 1, by go_num, by omega, hown, hbw9⟩, by simp only [intOf]; omega⟩
      · have HE : Hid (escB q (byteAt s k) = [92, byteAt s k]) := by show _ = _; rw [← HBt.out]; unfold escB; rw [if_pos (by omega)]
        have f1 : ((s[k].toNat : Int) == (q : Int)) = false := by simp; omega
        have f2 : ((s[k].toNat : Int) == 92) = true := by simp; omega
        clear hc
        go_wp2_with (at_builtin; (go_loud (refine wpList_append_own _ rfl _ _ 44 rfl w.heap.size 5 i0 (.int .u8 0) 1 1 Tryd.underlying44 hi0 iz0 iz1 iz2 rfl (by decide) _ _ _ rfl (hown.alloc _) ⟨wr.heap.size, 0, none⟩ 2 2 [.int .u8 92, .int .u8 (s[k].toNat : Int)] rfl rfl ?c1 ?c2 ?c3 ?c4 ?c5 ?_)))
        case c1 =>
          intro j u hj
          match j, hj with
          | 0, hj => simp at hj; subst hj; simp [Addr.add]
          | 1, hj => simp at hj; subst hj; simp [Addr.add]
        case c2 => intro u hu; simp at hu; rcases hu with rfl | rfl <;> rfl
        case c3 => have := qtL_len q s k; unfold maxLen; omega
        case c4 => have := qtL_len q s k; omega
        case c5 => have := hbw.size; simp; omega
        intro v' w9 hown9 hgrow _
        have hbw9 : Bel w w9 := Below.grown (by show Bel w _; exact bl) hgrow (by have := hbw.size; simp; omega) (fun x hx => by have := (hown.lt x hx).1; omega)
        have hown : w9.ownsRow w.heap.size 5 1 v' (qtL q s (k + 1)).length (ByL (qtL q s (k + 1))) := by
          rw [qtL_step, HE.out]; (try rw [← HBt.out]); rw [ByL_append, List.length_append]; exact hown9
        clear hgrow hown9
        go_wp2_with (fail)
        exact ⟨⟨k + 1, by go_num, by omega, hown, hbw9⟩, by simp only [intOf]; omega⟩
      · have HE : Hid (escB q (byteAt s k) = [92, 110]) := by show _ = _; rw [← HBt.out]; unfold escB; rw [if_neg (by omega), if_pos (by omega)]
        have f1 : ((s[k].toNat : Int) == (q : Int)) = false := by simp; omega
        have f2 : ((s[k].toNat : Int) == 92) = false := by simp; omega
        have f3 : ((s[k].toNat : Int) == 10) = true := by simp; omega
        clear hc
        go_wp2_with (at_builtin; (go_loud (refine wpList_append_own _ rfl _ _ 44 rfl w.heap.size 5 i0 (.int .u8 0) 1 1 Tryd.underlying44 hi0 iz0 iz1 iz2 rfl (by decide) _ _ _ rfl (hown.alloc _) ⟨wr.heap.size, 0, none⟩ 2 2 [.int .u8 92, .int .u8 110] rfl rfl ?c1 ?c2 ?c3 ?c4 ?c5 ?_)))
        case c1 =>
          intro j u hj
          match j, hj with
          | 0, hj => simp at hj; subst hj; simp [Addr.add]
          | 1, hj => simp at hj; subst hj; simp [Addr.add]
        case c2 => intro u hu; simp at hu; rcases hu with rfl | rfl <;> rfl
        case c3 => have := qtL_len q s k; unfold maxLen; omega
        case c4 => have := qtL_len q s k; omega
        case c5 => have := hbw.size; simp; omega
        intro v' w9 hown9 hgrow _
        have hbw9 : Bel w w9 := Below.grown (by show Bel w _; exact bl) hgrow (by have := hbw.size; simp; omega) (fun x hx => by have := (hown.lt x hx).1; omega)
        have hown : w9.ownsRow w.heap.size 5 1 v' (qtL q s (k + 1)).length (ByL (qtL q s (k + 1))) := by
          rw [qtL_step, HE.out]; (try rw [← HBt.out]); rw [ByL_append, List.length_append]; exact hown9
        clear hgrow hown9
        go_wp2_with (fail)
        exact ⟨⟨k + 1, by go_num, by omega, hown, hbw9⟩, by simp only [intOf]; omega⟩
      · have HE : Hid (escB q (byteAt s k) = [92, 116]) := by show _ = _; rw [← HBt.out]; unfold escB; rw [if_neg (by omega), if_neg (by omega), if_pos (by omega)]
        have f1 : ((s[k].toNat : Int) == (q : Int)) = false := by simp; omega
        have f2 : ((s[k].toNat : Int) == 92) = false := by simp; omega
        have f3 : ((s[k].toNat : Int) == 10) = false := by simp; omega
        have f4 : ((s[k].toNat : Int) == 9) = true := by simp; omega
        clear hc
        go_wp2_with (at_builtin; (go_loud (refine wpList_append_own _ rfl _ _ 44 rfl w.heap.size 5 i0 (.int .u8 0) 1 1 Tryd.underlying44 hi0 iz0 iz1 iz2 rfl (by decide) _ _ _ rfl (hown.alloc _) ⟨wr.heap.size, 0, none⟩ 2 2 [.int .u8 92, .int .u8 116] rfl rfl ?c1 ?c2 ?c3 ?c4 ?c5 ?_)))
        case c1 =>
          intro j u hj
          match j, hj with
          | 0, hj => simp at hj; subst hj; simp [Addr.add]
          | 1, hj => simp at hj; subst hj; simp [Addr.add]
        case c2 => intro u hu; simp at hu; rcases hu with rfl | rfl <;> rfl
        case c3 => have := qtL_len q s k; unfold maxLen; omega
        case c4 => have := qtL_len q s k; omega
        case c5 => have := hbw.size; simp; omega
        intro v' w9 hown9 hgrow _
        have hbw9 : Bel w w9 := Below.grown (by show Bel w _; exact bl) hgrow (by have := hbw.size; simp; omega) (fun x hx => by have := (hown.lt x hx).1; omega)
        have hown : w9.ownsRow w.heap.size 5 1 v' (qtL q s (k + 1)).length (ByL (qtL q s (k + 1))) := by
          rw [qtL_step, HE.out]; (try rw [← HBt.out]); rw [ByL_append, List.length_append]; exact hown9
        clear hgrow hown9
        go_wp2_with (fail)
        exact ⟨⟨k + 1, by go_num, by omega, hown, hbw9⟩, by simp only [intOf]; omega⟩
      · have HE : Hid (escB q (byteAt s k) = [92, 120, hexd (byteAt s k / 16), hexd (byteAt s k % 16)]) := by show _ = _; rw [← HBt.out]; unfold escB; rw [if_neg (by omega), if_neg (by omega), if_neg (by omega), if_pos (by omega)]
        have f1 : ((s[k].toNat : Int) == (q : Int)) = false := by simp; omega
        have f2 : ((s[k].toNat : Int) == 92) = false := by simp; omega
        have f3 : ((s[k].toNat : Int) == 10) = false := by simp; omega
        have f4 : ((s[k].toNat : Int) == 9) = false := by simp; omega
        have f5 : decide ((s[k].toNat : Int) < 32) = true := by simp; omega
        clear hc
        go_wp2_with (fail)
        rw [show ((s[k].toNat : Int) / 16) = ((s[k].toNat / 16 : Nat) : Int) from by omega]
        refine (l4Hex_any _ _ (by omega)).mono ?_
        rintro e w' ⟨rfl, rfl⟩
        go_wp2_with (fail)
        rw [show ((s[k].toNat : Int) % 16) = ((s[k].toNat % 16 : Nat) : Int) from by omega]
        refine (l4Hex_any _ _ (by omega)).mono ?_
        rintro e w' ⟨rfl, rfl⟩
        go_wp2_with (at_builtin; (go_loud (refine wpList_append_own _ rfl _ _ 44 rfl w.heap.size 5 i0 (.int .u8 0) 1 1 Tryd.underlying44 hi0 iz0 iz1 iz2 rfl (by decide) _ _ _ rfl (hown.alloc _) ⟨wr.heap.size, 0, none⟩ 4 4 [.int .u8 92, .int .u8 120, .int .u8 (hexd (s[k].toNat / 16) : Nat), .int .u8 (hexd (s[k].toNat % 16) : Nat)] rfl rfl ?c1 ?c2 ?c3 ?c4 ?c5 ?_)))
        case c1 =>
          intro j u hj
          match j, hj with
          | 0, hj => simp at hj; subst hj; simp [Addr.add]
          | 1, hj => simp at hj; subst hj; simp [Addr.add]
          | 2, hj => simp at hj; subst hj; simp [Addr.add]
          | 3, hj => simp at hj; subst hj; simp [Addr.add]
        case c2 => intro u hu; simp at hu; rcases hu with rfl | rfl | rfl | rfl <;> rfl
        case c3 => have := qtL_len q s k; unfold maxLen; omega
        case c4 => have := qtL_len q s k; omega
        case c5 => have := hbw.size; simp; omega
        intro v' w9 hown9 hgrow _
        have hbw9 : Bel w w9 := Below.grown (by show Bel w _; exact bl) hgrow (by have := hbw.size; simp; omega) (fun x hx => by have := (hown.lt x hx).1; omega)
        have hown : w9.ownsRow w.heap.size 5 1 v' (qtL q s (k + 1)).length (ByL (qtL q s (k + 1))) := by
          rw [qtL_step, HE.out]; (try rw [← HBt.out]); rw [ByL_append, List.length_append]; exact hown9
        clear hgrow hown9
        go_wp2_with (fail)
        exact ⟨⟨k + 1, by go_num, by omega, hown, hbw9⟩, by simp only [intOf]; omega⟩
      · have HE : Hid (escB q (byteAt s k) = [92, 120, hexd (byteAt s k / 16), hexd (byteAt s k % 16)]) := by show _ = _; rw [← HBt.out]; unfold escB; rw [if_neg (by omega), if_neg (by omega), if_neg (by omega), if_pos (by omega)]
        have f1 : ((s[k].toNat : Int) == (q : Int)) = false := by simp; omega
        have f2 : ((s[k].toNat : Int) == 92) = false := by simp; omega
        have f3 : ((s[k].toNat : Int) == 10) = false := by simp; omega
        have f4 : ((s[k].toNat : Int) == 9) = false := by simp; omega
        have f5 : decide ((s[k].toNat : Int) < 32) = false := by simp; omega
        have f6 : decide (126 < (s[k].toNat : Int)) = true := by simp; omega
        clear hc
        go_wp2_with (fail)
        rw [show ((s[k].toNat : Int) / 16) = ((s[k].toNat / 16 : Nat) : Int) from by omega]
        refine (l4Hex_any _ _ (by omega)).mono ?_
        rintro e w' ⟨rfl, rfl⟩
        go_wp2_with (fail)
        rw [show ((s[k].toNat : Int) % 16) = ((s[k].toNat % 16 : Nat) : Int) from by omega]
        refine (l4Hex_any _ _ (by omega)).mono ?_
        rintro e w' ⟨rfl, rfl⟩
        go_wp2_with (at_builtin; (go_loud (refine wpList_append_own _ rfl _ _ 44 rfl w.heap.size 5 i0 (.int .u8 0) 1 1 Tryd.underlying44 hi0 iz0 iz1 iz2 rfl (by decide) _ _ _ rfl (hown.alloc _) ⟨wr.heap.size, 0, none⟩ 4 4 [.int .u8 92, .int .u8 120, .int .u8 (hexd (s[k].toNat / 16) : Nat), .int .u8 (hexd (s[k].toNat % 16) : Nat)] rfl rfl ?c1 ?c2 ?c3 ?c4 ?c5 ?_)))
        case c1 =>
          intro j u hj
          match j, hj with
          | 0, hj => simp at hj; subst hj; simp [Addr.add]
          | 1, hj => simp at hj; subst hj; simp [Addr.add]
          | 2, hj => simp at hj; subst hj; simp [Addr.add]
          | 3, hj => simp at hj; subst hj; simp [Addr.add]
        case c2 => intro u hu; simp at hu; rcases hu with rfl | rfl | rfl | rfl <;> rfl
        case c3 => have := qtL_len q s k; unfold maxLen; omega
        case c4 => have := qtL_len q s k; omega
        case c5 => have := hbw.size; simp; omega
        intro v' w9 hown9 hgrow _
        have hbw9 : Bel w w9 := Below.grown (by show Bel w _; exact bl) hgrow (by have := hbw.size; simp; omega) (fun x hx => by have := (hown.lt x hx).1; omega)
        have hown : w9.ownsRow w.heap.size 5 1 v' (qtL q s (k + 1)).length (ByL (qtL q s (k + 1))) := by
          rw [qtL_step, HE.out]; (try rw [← HBt.out]); rw [ByL_append, List.length_append]; exact hown9
        clear hgrow hown9
        go_wp2_with (fail)
        exact ⟨⟨k + 1, by go_num, by omega, hown, hbw9⟩, by simp only [intOf]; omega⟩
      · have HE : Hid (escB q (byteAt s k) = [byteAt s k]) := by show _ = _; rw [← HBt.out]; unfold escB; rw [if_neg (by omega), if_neg (by omega), if_neg (by omega), if_neg (by omega)]
        have f1 : ((s[k].toNat : Int) == (q : Int)) = false := by simp; omega
        have f2 : ((s[k].toNat : Int) == 92) = false := by simp; omega
        have f3 : ((s[k].toNat : Int) == 10) = false := by simp; omega
        have f4 : ((s[k].toNat : Int) == 9) = false := by simp; omega
        have f5 : decide ((s[k].toNat : Int) < 32) = false := by simp; omega
        have f6 : decide (126 < (s[k].toNat : Int)) = false := by simp; omega
        clear hc
        go_wp2_with (at_builtin; (go_loud (refine wpList_append_own _ rfl _ _ 44 rfl w.heap.size 5 i0 (.int .u8 0) 1 1 Tryd.underlying44 hi0 iz0 iz1 iz2 rfl (by decide) _ _ _ rfl (hown.alloc _) ⟨wr.heap.size, 0, none⟩ 1 1 [.int .u8 (s[k].toNat : Int)] rfl rfl ?c1 ?c2 ?c3 ?c4 ?c5 ?_)))
        case c1 =>
          intro j u hj
          match j, hj with
          | 0, hj => simp at hj; subst hj; simp [Addr.add]
        case c2 => intro u hu; simp at hu; subst hu; rfl
        case c3 => have := qtL_len q s k; unfold maxLen; omega
        case c4 => have := qtL_len q s k; omega
        case c5 => have := hbw.size; simp; omega
        intro v' w9 hown9 hgrow _
        have hbw9 : Bel w w9 := Below.grown (by show Bel w _; exact bl) hgrow (by have := hbw.size; simp; omega) (fun x hx => by have := (hown.lt x hx).1; omega)
        have hown : w9.ownsRow w.heap.size 5 1 v' (qtL q s (k + 1)).length (ByL (qtL q s (k + 1))) := by
          rw [qtL_step, HE.out]; (try rw [← HBt.out]); rw [ByL_append, List.length_append]; exact hown9
        clear hgrow hown9
        go_wp2_with (fail)
        exact ⟨⟨k + 1, by go_num, by omega, hown, hbw9⟩, by simp only [intOf]; omega⟩
    · have hd : decide ((k : Int) < (s.size : Int)) = false := by simp; omega
      have hks : k = s.size := by omega
      have HKS := hide hks
      clear hks
      go_wp2_with (at_builtin; (go_loud (refine wpList_append_own _ rfl _ _ 44 rfl w.heap.size 5 i0 (.int .u8 0) 1 1 Tryd.underlying44 hi0 iz0 iz1 iz2 rfl (by decide) _ _ _ rfl (hown.alloc _) ⟨wr.heap.size, 0, none⟩ 1 1 [.int .u8 q] rfl rfl ?c1 ?c2 ?c3 ?c4 ?c5 ?_)))
      case c1 =>
        intro j u hj
        match j, hj with
        | 0, hj => simp at hj; subst hj; simp [Addr.add]
      case c2 => intro u hu; simp at hu; subst hu; rfl
      case c3 => have := qtL_len q s k; unfold maxLen; omega
      case c4 => have := qtL_len q s k; omega
      case c5 => have := hbw.size; simp; omega
      intro v' w9 hown9 hgrow _
      have hbw9 : Bel w w9 := Below.grown (by show Bel w _; exact bl) hgrow (by have := hbw.size; simp; omega) (fun x hx => by have := (hown.lt x hx).1; omega)
      have hT := bytes_text (qtL q s k ++ [q]) (fun x hx => by rcases List.mem_append.1 hx with h | h; exact qtL_lt q s hq k x h; simp at h; omega) w9 _ _ (by rw [ByL_append, List.length_append]; exact hown9)
      clear hgrow hown9
      go_wp2_with (fail)
      all_goals
        go_returns
        exact ⟨by rw [HKS.out]; rfl, hbw9⟩

set_option maxHeartbeats 4000000 in
theorem quoteWith_any (s : ByteArray) (q : Nat) (w : World) (hq : q < 256) (hs : s.size ≤ 300000000) :
    Calls Tryd.prog 27 #[.string s, .int .u8 q] w fun e w' => e = .returned (.string (qt q s)) ∧ Bel w w' := by
  obtain ⟨i0, hi0, iz0, iz1, iz2⟩ := info_parts infoQ8
  go_enter Tryd.func27, Tryd.ntmps27
  go_wp2_with (fail)
  go_loopw [5, 6, 7] (fun v i _ wr => ∃ k : Nat, i = .int .i64 k ∧ k ≤ s.size ∧ wr.ownsRow w.heap.size 5 1 v (qtL q s k).length (ByL (qtL q s k)) ∧ Bel w wr) (fun _ i _ _ => s.size - (intOf i).toNat)
  case atStart => exact ⟨0, rfl, by omega, own_new w _ _ 1 #[.int .u8 q] (Nat.le_refl _) rfl (by unfold maxLen; omega), bl⟩
  case round =>
    obtain ⟨k, rfl, hk, hown, hbw⟩ := hrel
    have hql := qtL_len q s k
    by_cases h : k < s.size
    · have hd : decide ((k : Int) < (s.size : Int)) = true := by simp; omega
      have hB := byteAt_eq s k h
      have hbl := byteAt_lt s k
      rw [← hB] at hbl
      have HBt := hide hB
      clear hB
      rcases (show s[k].toNat = q ∨ (¬ s[k].toNat = q ∧ s[k].toNat = 92) ∨ (¬ s[k].toNat = q ∧ ¬ s[k].toNat = 92 ∧ s[k].toNat = 10) ∨ (¬ s[k].toNat = q ∧ ¬ s[k].toNat = 92 ∧ ¬ s[k].toNat = 10 ∧ s[k].toNat = 9) ∨ (¬ s[k].toNat = q ∧ ¬ s[k].toNat = 92 ∧ ¬ s[k].toNat = 10 ∧ ¬ s[k].toNat = 9 ∧ s[k].toNat < 32) ∨ (¬ s[k].toNat = q ∧ ¬ s[k].toNat = 92 ∧ ¬ s[k].toNat = 10 ∧ ¬ s[k].toNat = 9 ∧ 126 < s[k].toNat) ∨ (¬ s[k].toNat = q ∧ ¬ s[k].toNat = 92 ∧ ¬ s[k].toNat = 10 ∧ ¬ s[k].toNat = 9 ∧ 32 ≤ s[k].toNat ∧ s[k].toNat ≤ 126) by omega) with hc | hc | hc | hc | hc | hc | hc
      · have HE : Hid (escB q (byteAt s k) = [92, byteAt s k]) := by show _ = _; rw [← HBt.out]; unfold escB; rw [if_pos (by omega)]
        have f1 : ((s[k].toNat : Int) == (q : Int)) = true := by simp [hc]
        clear hc
        go_wp2_with (at_builtin; (go_loud (refine wpList_append_own _ rfl _ _ 44 rfl w.heap.size 5 i0 (.int .u8 0) 1 1 Tryd.underlying44 hi0 iz0 iz1 iz2 rfl (by decide) _ _ _ rfl (hown.alloc _) ⟨wr.heap.size, 0, none⟩ 2 2 [.int .u8 92, .int .u8 (s[k].toNat : Int)] rfl rfl ?c1 ?c2 ?c3 ?c4 ?c5 ?_)))
        case c1 =>
          intro j u hj
          match j, hj with
          | 0, hj => simp at hj; subst hj; simp [Addr.add]
          | 1, hj => simp at hj; subst hj; simp [Addr.add]
        case c2 => intro u hu; simp at hu; rcases hu with rfl | rfl <;> rfl
        case c3 => have := qtL_len q s k; unfold maxLen; omega
        case c4 => have := qtL_len q s k; omega
        case c5 => have := hbw.size; simp; omega
        intro v' w9 hown9 hgrow _
        have hbw9 : Bel w w9 := Below.grown (by show Bel w _; exact bl) hgrow (by have := hbw.size; simp; omega) (fun x hx => by have := (hown.lt x hx).1; omega)
        have hown : w9.ownsRow w.heap.size 5 1 v' (qtL q s (k + 1)).length (ByL (qtL q s (k + 1))) := by
          rw [qtL_step, HE.out]; (try rw [← HBt.out]); rw [ByL_append, List.length_append]; exact hown9
        clear hgrow hown9
        go_wp2_with (fail)
        exact ⟨⟨k + 1, by go_num, by omega, hown, hbw9⟩, by simp only [intOf]; omega⟩
      · have HE : Hid (escB q (byteAt s k) = [92, byteAt s k]) := by show _ = _; rw [← HBt.out]; unfold escB; rw [if_pos (by omega)]
        have f1 : ((s[k].toNat : Int) == (q : Int)) = false := by simp; omega
        have f2 : ((s[k].toNat : Int) == 92) = true := by simp; omega
        clear hc
        go_wp2_with (at_builtin; (go_loud (refine wpList_append_own _ rfl _ _ 44 rfl w.heap.size 5 i0 (.int .u8 0) 1 1 Tryd.underlying44 hi0 iz0 iz1 iz2 rfl (by decide) _ _ _ rfl (hown.alloc _) ⟨wr.heap.size, 0, none⟩ 2 2 [.int .u8 92, .int .u8 (s[k].toNat : Int)] rfl rfl ?c1 ?c2 ?c3 ?c4 ?c5 ?_)))
        case c1 =>
          intro j u hj
          match j, hj with
          | 0, hj => simp at hj; subst hj; simp [Addr.add]
          | 1, hj => simp at hj; subst hj; simp [Addr.add]
        case c2 => intro u hu; simp at hu; rcases hu with rfl | rfl <;> rfl
        case c3 => have := qtL_len q s k; unfold maxLen; omega
        case c4 => have := qtL_len q s k; omega
        case c5 => have := hbw.size; simp; omega
        intro v' w9 hown9 hgrow _
        have hbw9 : Bel w w9 := Below.grown (by show Bel w _; exact bl) hgrow (by have := hbw.size; simp; omega) (fun x hx => by have := (hown.lt x hx).1; omega)
        have hown : w9.ownsRow w.heap.size 5 1 v' (qtL q s (k + 1)).length (ByL (qtL q s (k + 1))) := by
          rw [qtL_step, HE.out]; (try rw [← HBt.out]); rw [ByL_append, List.length_append]; exact hown9
        clear hgrow hown9
        go_wp2_with (fail)
        exact ⟨⟨k + 1, by go_num, by omega, hown, hbw9⟩, by simp only [intOf]; omega⟩
      · have HE : Hid (escB q (byteAt s k) = [92, 110]) := by show _ = _; rw [← HBt.out]; unfold escB; rw [if_neg (by omega), if_pos (by omega)]
        have f1 : ((s[k].toNat : Int) == (q : Int)) = false := by simp; omega
        have f2 : ((s[k].toNat : Int) == 92) = false := by simp; omega
        have f3 : ((s[k].toNat : Int) == 10) = true := by simp; omega
        clear hc
        go_wp2_with (at_builtin; (go_loud (refine wpList_append_own _ rfl _ _ 44 rfl w.heap.size 5 i0 (.int .u8 0) 1 1 Tryd.underlying44 hi0 iz0 iz1 iz2 rfl (by decide) _ _ _ rfl (hown.alloc _) ⟨wr.heap.size, 0, none⟩ 2 2 [.int .u8 92, .int .u8 110] rfl rfl ?c1 ?c2 ?c3 ?c4 ?c5 ?_)))
        case c1 =>
          intro j u hj
          match j, hj with
          | 0, hj => simp at hj; subst hj; simp [Addr.add]
          | 1, hj => simp at hj; subst hj; simp [Addr.add]
        case c2 => intro u hu; simp at hu; rcases hu with rfl | rfl <;> rfl
        case c3 => have := qtL_len q s k; unfold maxLen; omega
        case c4 => have := qtL_len q s k; omega
        case c5 => have := hbw.size; simp; omega
        intro v' w9 hown9 hgrow _
        have hbw9 : Bel w w9 := Below.grown (by show Bel w _; exact bl) hgrow (by have := hbw.size; simp; omega) (fun x hx => by have := (hown.lt x hx).1; omega)
        have hown : w9.ownsRow w.heap.size 5 1 v' (qtL q s (k + 1)).length (ByL (qtL q s (k + 1))) := by
          rw [qtL_step, HE.out]; (try rw [← HBt.out]); rw [ByL_append, List.length_append]; exact hown9
        clear hgrow hown9
        go_wp2_with (fail)
        exact ⟨⟨k + 1, by go_num, by omega, hown, hbw9⟩, by simp only [intOf]; omega⟩
      · have HE : Hid (escB q (byteAt s k) = [92, 116]) := by show _ = _; rw [← HBt.out]; unfold escB; rw [if_neg (by omega), if_neg (by omega), if_pos (by omega)]
        have f1 : ((s[k].toNat : Int) == (q : Int)) = false := by simp; omega
        have f2 : ((s[k].toNat : Int) == 92) = false := by simp; omega
        have f3 : ((s[k].toNat : Int) == 10) = false := by simp; omega
        have f4 : ((s[k].toNat : Int) == 9) = true := by simp; omega
        clear hc
        go_wp2_with (at_builtin; (go_loud (refine wpList_append_own _ rfl _ _ 44 rfl w.heap.size 5 i0 (.int .u8 0) 1 1 Tryd.underlying44 hi0 iz0 iz1 iz2 rfl (by decide) _ _ _ rfl (hown.alloc _) ⟨wr.heap.size, 0, none⟩ 2 2 [.int .u8 92, .int .u8 116] rfl rfl ?c1 ?c2 ?c3 ?c4 ?c5 ?_)))
        case c1 =>
          intro j u hj
          match j, hj with
          | 0, hj => simp at hj; subst hj; simp [Addr.add]
          | 1, hj => simp at hj; subst hj; simp [Addr.add]
        case c2 => intro u hu; simp at hu; rcases hu with rfl | rfl <;> rfl
        case c3 => have := qtL_len q s k; unfold maxLen; omega
        case c4 => have := qtL_len q s k; omega
        case c5 => have := hbw.size; simp; omega
        intro v' w9 hown9 hgrow _
        have hbw9 : Bel w w9 := Below.grown (by show Bel w _; exact bl) hgrow (by have := hbw.size; simp; omega) (fun x hx => by have := (hown.lt x hx).1; omega)
        have hown : w9.ownsRow w.heap.size 5 1 v' (qtL q s (k + 1)).length (ByL (qtL q s (k + 1))) := by
          rw [qtL_step, HE.out]; (try rw [← HBt.out]); rw [ByL_append, List.length_append]; exact hown9
        clear hgrow hown9
        go_wp2_with (fail)
        exact ⟨⟨k + 1, by go_num, by omega, hown, hbw9⟩, by simp only [intOf]; omega⟩
      · have HE : Hid (escB q (byteAt s k) = [92, 120, hexd (byteAt s k / 16), hexd (byteAt s k % 16)]) := by show _ = _; rw [← HBt.out]; unfold escB; rw [if_neg (by omega), if_neg (by omega), if_neg (by omega), if_pos (by omega)]
        have f1 : ((s[k].toNat : Int) == (q : Int)) = false := by simp; omega
        have f2 : ((s[k].toNat : Int) == 92) = false := by simp; omega
        have f3 : ((s[k].toNat : Int) == 10) = false := by simp; omega
        have f4 : ((s[k].toNat : Int) == 9) = false := by simp; omega
        have f5 : decide ((s[k].toNat : Int) < 32) = true := by simp; omega
        clear hc
        go_wp2_with (fail)
        have i1 : 0 ≤ ((s[k].toNat : Int) / 16) := by omega
        have i2 : ((s[k].toNat : Int) / 16) < 16 := by omega
        have i3 := and15 s[k].toNat hbl
        have i4 : 0 ≤ ((s[k].toNat : Int) % 16) := by omega
        have i5 : ((s[k].toNat : Int) % 16) < 16 := by omega
        go_region_held3 (fun _ => True) (trivial) ((refine step_append_lies _ (by rfl) _ _ _ (by rfl) w.heap.size 5 i0 _ 1 1 Tryd.underlying44 hi0 iz0 iz1 iz2 rfl (by omega) _ _ _ (by rfl) (own_belQ hown bl) ⟨wr.heap.size, 0, none⟩ 4 4 _ (by rfl) (by rfl) (World.news_of_block (heap_alloc_new wr _)) (by simp [Value.oneCell']) (by omega) (by unfold maxLen; omega) (by omega) (by have := hbw.size; simp; omega) (wr.heap.size + 1) (by simp) ?_; intro gg cap w9 hown9 hgrow hat hlt))
        all_goals
          have hbw9 : Bel w w9 := Below.grown (by show Bel w _; exact bl) hgrow (by have := hbw.size; simp; omega) (fun x hx => by have := (hown.lt x hx).1; omega)
          have t1 : ((s[k].toNat : Int) / 16).toNat = s[k].toNat / 16 := by omega
          have t2 : ((s[k].toNat : Int) % 16).toNat = s[k].toNat % 16 := by omega
          have hown : w9.ownsRow w.heap.size 5 1 (.slice (some ⟨gg, 0, none⟩) ((qtL q s k).length + 4) cap) (qtL q s (k + 1)).length (ByL (qtL q s (k + 1))) := by
            simp only [i3, t1, t2, digN _ (show s[k].toNat / 16 < 16 by omega), digN _ (show s[k].toNat % 16 < 16 by omega)] at hown9
            rw [qtL_step, HE.out, ← HBt.out, ByL_append, List.length_append]; exact hown9
          clear hgrow hown9 t1 t2 hat
          go_wp2_with (fail)
          exact ⟨⟨k + 1, by go_num, by omega, hown, hbw9⟩, by simp only [intOf]; omega⟩
      · have HE : Hid (escB q (byteAt s k) = [92, 120, hexd (byteAt s k / 16), hexd (byteAt s k % 16)]) := by show _ = _; rw [← HBt.out]; unfold escB; rw [if_neg (by omega), if_neg (by omega), if_neg (by omega), if_pos (by omega)]
        have f1 : ((s[k].toNat : Int) == (q : Int)) = false := by simp; omega
        have f2 : ((s[k].toNat : Int) == 92) = false := by simp; omega
        have f3 : ((s[k].toNat : Int) == 10) = false := by simp; omega
        have f4 : ((s[k].toNat : Int) == 9) = false := by simp; omega
        have f5 : decide ((s[k].toNat : Int) < 32) = false := by simp; omega
        have f6 : decide (126 < (s[k].toNat : Int)) = true := by simp; omega
        clear hc
        go_wp2_with (fail)
        have i1 : 0 ≤ ((s[k].toNat : Int) / 16) := by omega
        have i2 : ((s[k].toNat : Int) / 16) < 16 := by omega
        have i3 := and15 s[k].toNat hbl
        have i4 : 0 ≤ ((s[k].toNat : Int) % 16) := by omega
        have i5 : ((s[k].toNat : Int) % 16) < 16 := by omega
        go_region_held3 (fun _ => True) (trivial) ((refine step_append_lies _ (by rfl) _ _ _ (by rfl) w.heap.size 5 i0 _ 1 1 Tryd.underlying44 hi0 iz0 iz1 iz2 rfl (by omega) _ _ _ (by rfl) (own_belQ hown bl) ⟨wr.heap.size, 0, none⟩ 4 4 _ (by rfl) (by rfl) (World.news_of_block (heap_alloc_new wr _)) (by simp [Value.oneCell']) (by omega) (by unfold maxLen; omega) (by omega) (by have := hbw.size; simp; omega) (wr.heap.size + 1) (by simp) ?_; intro gg cap w9 hown9 hgrow hat hlt))
        all_goals
          have hbw9 : Bel w w9 := Below.grown (by show Bel w _; exact bl) hgrow (by have := hbw.size; simp; omega) (fun x hx => by have := (hown.lt x hx).1; omega)
          have t1 : ((s[k].toNat : Int) / 16).toNat = s[k].toNat / 16 := by omega
          have t2 : ((s[k].toNat : Int) % 16).toNat = s[k].toNat % 16 := by omega
          have hown : w9.ownsRow w.heap.size 5 1 (.slice (some ⟨gg, 0, none⟩) ((qtL q s k).length + 4) cap) (qtL q s (k + 1)).length (ByL (qtL q s (k + 1))) := by
            simp only [i3, t1, t2, digN _ (show s[k].toNat / 16 < 16 by omega), digN _ (show s[k].toNat % 16 < 16 by omega)] at hown9
            rw [qtL_step, HE.out, ← HBt.out, ByL_append, List.length_append]; exact hown9
          clear hgrow hown9 t1 t2 hat
          go_wp2_with (fail)
          exact ⟨⟨k + 1, by go_num, by omega, hown, hbw9⟩, by simp only [intOf]; omega⟩
      · have HE : Hid (escB q (byteAt s k) = [byteAt s k]) := by show _ = _; rw [← HBt.out]; unfold escB; rw [if_neg (by omega), if_neg (by omega), if_neg (by omega), if_neg (by omega)]
        have f1 : ((s[k].toNat : Int) == (q : Int)) = false := by simp; omega
        have f2 : ((s[k].toNat : Int) == 92) = false := by simp; omega
        have f3 : ((s[k].toNat : Int) == 10) = false := by simp; omega
        have f4 : ((s[k].toNat : Int) == 9) = false := by simp; omega
        have f5 : decide ((s[k].toNat : Int) < 32) = false := by simp; omega
        have f6 : decide (126 < (s[k].toNat : Int)) = false := by simp; omega
        clear hc
        go_wp2_with (at_builtin; (go_loud (refine wpList_append_own _ rfl _ _ 44 rfl w.heap.size 5 i0 (.int .u8 0) 1 1 Tryd.underlying44 hi0 iz0 iz1 iz2 rfl (by decide) _ _ _ rfl (hown.alloc _) ⟨wr.heap.size, 0, none⟩ 1 1 [.int .u8 (s[k].toNat : Int)] rfl rfl ?c1 ?c2 ?c3 ?c4 ?c5 ?_)))
        case c1 =>
          intro j u hj
          match j, hj with
          | 0, hj => simp at hj; subst hj; simp [Addr.add]
        case c2 => intro u hu; simp at hu; subst hu; rfl
        case c3 => have := qtL_len q s k; unfold maxLen; omega
        case c4 => have := qtL_len q s k; omega
        case c5 => have := hbw.size; simp; omega
        intro v' w9 hown9 hgrow _
        have hbw9 : Bel w w9 := Below.grown (by show Bel w _; exact bl) hgrow (by have := hbw.size; simp; omega) (fun x hx => by have := (hown.lt x hx).1; omega)
        have hown : w9.ownsRow w.heap.size 5 1 v' (qtL q s (k + 1)).length (ByL (qtL q s (k + 1))) := by
          rw [qtL_step, HE.out]; (try rw [← HBt.out]); rw [ByL_append, List.length_append]; exact hown9
        clear hgrow hown9
        go_wp2_with (fail)
        exact ⟨⟨k + 1, by go_num, by omega, hown, hbw9⟩, by simp only [intOf]; omega⟩
    · have hd : decide ((k : Int) < (s.size : Int)) = false := by simp; omega
      have hks : k = s.size := by omega
      have HKS := hide hks
      clear hks
      go_wp2_with (at_builtin; (go_loud (refine wpList_append_own _ rfl _ _ 44 rfl w.heap.size 5 i0 (.int .u8 0) 1 1 Tryd.underlying44 hi0 iz0 iz1 iz2 rfl (by decide) _ _ _ rfl (hown.alloc _) ⟨wr.heap.size, 0, none⟩ 1 1 [.int .u8 q] rfl rfl ?c1 ?c2 ?c3 ?c4 ?c5 ?_)))
      case c1 =>
        intro j u hj
        match j, hj with
        | 0, hj => simp at hj; subst hj; simp [Addr.add]
      case c2 => intro u hu; simp at hu; subst hu; rfl
      case c3 => have := qtL_len q s k; unfold maxLen; omega
      case c4 => have := qtL_len q s k; omega
      case c5 => have := hbw.size; simp; omega
      intro v' w9 hown9 hgrow _
      have hbw9 : Bel w w9 := Below.grown (by show Bel w _; exact bl) hgrow (by have := hbw.size; simp; omega) (fun x hx => by have := (hown.lt x hx).1; omega)
      have hT := bytes_text (qtL q s k ++ [q]) (fun x hx => by rcases List.mem_append.1 hx with h | h; exact qtL_lt q s hq k x h; simp at h; omega) w9 _ _ (by rw [ByL_append, List.length_append]; exact hown9)
      clear hgrow hown9
      go_wp2_with (fail)
      all_goals
        go_returns
        exact ⟨by rw [HKS.out]; rfl, hbw9⟩

end Go.Proofs.YtpcimcamjlbagaaDoor
