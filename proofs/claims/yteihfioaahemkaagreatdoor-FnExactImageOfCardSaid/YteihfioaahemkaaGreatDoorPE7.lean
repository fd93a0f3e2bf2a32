/- FormatInt of the reference. -/
import Derived.Test.YteihfioaahemkaaGreatDoorPr
import Derived.Test.YteihfioaahemkaaGreatDoorPShelf
import Derived.Test.YteihfioaahemkaaGreatDoorPB
import Derived.Laws.IdiomStrings
import Derived.Laws.BitsAllLaws
import Derived.Lib.BufferRead
import Derived.Deep.Cut
namespace Go.Proofs.YteihfioaahemkaaGreatDoor
set_option linter.unusedVariables false
set_option linter.unusedSimpArgs false
set_option maxRecDepth 100000
open Go.RowKit
def natD (m : Nat) : List UInt8 := if m = 0 then [] else Lib.decDigits m
theorem natD_step {m : Nat} (h : m ≠ 0) : natD m = natD (m / 10) ++ [UInt8.ofNat (48 + m % 10)] := by
 unfold natD
 rw [if_neg h]
 by_cases h1 : m < 10
 ·
  rw [Lib.decDigits_one h1, if_pos (by omega), show m % 10 = m by omega]; rfl
 ·
  rw [if_neg (by omega)]
  rw [Lib.decDigits, dif_neg h1]
theorem nDig_le : ∀ (k u : Nat), u < 10 ^ (k + 1) → Lib.nDigits u ≤ k + 1
 | 0, u, h => by rw [Lib.nDigits_small (by simpa using h)]; omega
 | k + 1, u, h => by
  by_cases h1 : u < 10
  ·
   rw [Lib.nDigits_small h1]; omega
  ·
   rw [Lib.nDigits_big h1]
   have := nDig_le k (u / 10) (by rw [Nat.div_lt_iff_lt_mul (by omega), ← Nat.pow_succ]; exact h)
   omega
set_option maxHeartbeats 2000000 in
theorem specFormatInt_any (n : Int) (w : World) (hn : InI n) :
  Calls Tryz.prog 55 #[.int .i64 n] w fun e w' => e = .returned (.string ⟨(Lib.itoa n).toArray⟩) ∧ Bel w w' := by
 unfold InI at hn
 by_cases h0 : n = 0
 ·
  subst h0
  rw [show (⟨(Lib.itoa 0).toArray⟩ : ByteArray) = ⟨#[48]⟩ by decide +kernel]
  go_enter Tryz.func55, Tryz.ntmps55
  go_wp2
  all_goals
   go_returns
   exact ⟨rfl, bl⟩
 ·
  have hlen : (Lib.decDigits n.natAbs).length ≤ 20 := by
   rw [Lib.decDigits_length]
   exact nDig_le 19 _ (by omega)
  go_enter Tryz.func55, Tryz.ntmps55
  go_wp2_with (fail)
  go_loopw [0, 4] (fun v o wr => ∃ (m : Int) (t : ByteArray), v = .int .i64 m ∧ o = .string t ∧ InI m ∧ Hid (natD m.natAbs ++ t.data.toList = Lib.decDigits n.natAbs) ∧ t.size ≤ 20 ∧ Bel w wr) (fun v _ _ => (intOf v).natAbs)
  case atStart => exact ⟨n, ByteArray.empty, rfl, rfl, hn, by unfold natD; rw [if_neg (by omega)]; exact List.append_nil _, by decide, bl⟩
  case round =>
   obtain ⟨m, t, rfl, rfl, hm, hE, ht, hbw⟩ := hrel
   unfold InI at hm
   by_cases hz : m = 0
   ·
    subst hz
    have hE0 : t.data.toList = Lib.decDigits n.natAbs := hE.out
    have hT : t = ⟨(Lib.decDigits n.natAbs).toArray⟩ := by rw [← hE0]
    by_cases hs : n < 0
    ·
     have hR : (⟨(Lib.itoa n).toArray⟩ : ByteArray) = (⟨#[45]⟩ : ByteArray) ++ t := by
      rw [hT]
      unfold Lib.itoa
      rw [if_pos hs]
      apply ByteArray.ext
      simp
     replace hR := hide hR
     clear hT
     go_wp2_with (fail)
     all_goals
      go_returns
      exact ⟨by rw [hR.out]; rfl, bl⟩
    ·
     have hR : (⟨(Lib.itoa n).toArray⟩ : ByteArray) = t := by
      rw [hT]
      unfold Lib.itoa
      rw [if_neg hs, show n.natAbs = n.toNat by omega]
     replace hR := hide hR
     clear hT
     go_wp2_with (fail)
     all_goals
      go_returns
      exact ⟨by rw [hR.out]; rfl, bl⟩
   ·
    have hq : (m.tdiv 10).natAbs = m.natAbs / 10 := Int.natAbs_tdiv m 10
    have hr : (m.tmod 10).natAbs = m.natAbs % 10 := Int.natAbs_tmod m 10
    have hw1 : IntKind.i64.wrap (m.tdiv 10) = m.tdiv 10 := by rw [IntKind.wrap_i64] <;> omega
    have hw2 : IntKind.i64.wrap (m.tmod 10) = m.tmod 10 := by rw [IntKind.wrap_i64] <;> omega
    have hcv : ∀ d : Int, d = ((m.natAbs % 10 : Nat) : Int) → (convert 122 9 (.slice (some ⟨wr.heap.size, 0, none⟩) 1 1)).run Tryz.prog (wr.alloc (.cells #[.int .u8 (48 + d)] 5)) = .ok (.string ⟨#[UInt8.ofNat (48 + m.natAbs % 10)]⟩) (wr.alloc (.cells #[.int .u8 (48 + d)] 5)) := by
     intro d hd
     refine run_convert_bytes_back (P := Tryz.prog) (wr.alloc (.cells #[.int .u8 (48 + d)] 5)) _ _ 5 ⟨wr.heap.size, 0, none⟩ 1 [UInt8.ofNat (48 + m.natAbs % 10)] Tryz.underlying122 Tryz.underlying5 Tryz.underlying9 (fun j hj => ?_)
     obtain rfl : j = 0 := by simpa using hj
     rw [show (⟨wr.heap.size, 0, none⟩ : Addr).add 0 = ⟨wr.heap.size, 0, none⟩ from rfl, World.cell?_alloc_mark, hd]
     simp only [List.getElem?_toArray, List.getElem?_cons_zero, List.getElem_cons_zero, Option.some.injEq, Value.int.injEq, true_and]
     rw [UInt8.toNat_ofNat']
     omega
    have hE2 : natD (m.tdiv 10).natAbs ++ ((⟨#[UInt8.ofNat (48 + m.natAbs % 10)]⟩ : ByteArray) ++ t).data.toList = Lib.decDigits n.natAbs := by
     rw [hq, ← hE.out, natD_step (show m.natAbs ≠ 0 by omega)]
     simp
    have ht2 : ((⟨#[UInt8.ofNat (48 + m.natAbs % 10)]⟩ : ByteArray) ++ t).size ≤ 20 := by
     have h1 := congrArg List.length hE.out
     rw [natD_step (show m.natAbs ≠ 0 by omega), List.length_append, List.length_append, List.length_singleton] at h1
     have h2 : t.data.toList.length = t.size := Array.length_toList
     rw [ByteArray.size_append]
     have h3 : (⟨#[UInt8.ofNat (48 + m.natAbs % 10)]⟩ : ByteArray).size = 1 := rfl
     omega
    obtain ⟨x, hx⟩ : ∃ x, UInt8.ofNat (48 + m.natAbs % 10) = x := ⟨_, rfl⟩
    simp only [hx] at hcv hE2 ht2
    clear hx
    replace hE2 := hide hE2
    by_cases hs : m.tmod 10 < 0
    ·
     have hc := hcv (-m.tmod 10) (by omega)
     clear hcv
     go_wp2_with (fail)
     exact ⟨⟨m.tdiv 10, _, rfl, rfl, ⟨by omega, by omega⟩, hE2, ht2, bl⟩, by simp only [intOf]; omega⟩
    ·
     have hc := hcv (m.tmod 10) (by omega)
     clear hcv
     go_wp2_with (fail)
     exact ⟨⟨m.tdiv 10, _, rfl, rfl, ⟨by omega, by omega⟩, hE2, ht2, bl⟩, by simp only [intOf]; omega⟩
end Go.Proofs.YteihfioaahemkaaGreatDoor
namespace Go.Proofs.YteihfioaahemkaaGreatDoor
set_option linter.unusedVariables false
set_option linter.unusedSimpArgs false
set_option maxRecDepth 100000
open Go.RowKit
def bitI (x : Int) (b : Nat) : Bool := (BitVec.ofInt 64 x).getLsbD b
theorem two_pow_le (b : Nat) (h : b < 64) : 1 ≤ 2 ^ b ∧ 2 ^ b ≤ 9223372036854775808 := by
 refine ⟨Nat.one_le_two_pow, ?_⟩
 calc 2 ^ b ≤ 2 ^ 63 := Nat.pow_le_pow_right (by omega) (by omega)
  _ = 9223372036854775808 := by decide
theorem ofInt_wrap_pow (b : Nat) (h : b < 64) : BitVec.ofInt 64 (wrap64 (2 ^ b)) = BitVec.twoPow 64 b := by
 apply BitVec.eq_of_toNat_eq
 rw [BitVec.toNat_ofInt, BitVec.toNat_twoPow]
 obtain ⟨h1, h2⟩ := two_pow_le b h
 have e : ((2 : Int) ^ b) = ((2 ^ b : Nat) : Int) := by simp
 rw [e]
 generalize 2 ^ b = p at *
 unfold wrap64
 omega
theorem bit_and (x : Int) (b : Nat) (h : b < 64) : (bits .and .i64 x (wrap64 (2 ^ b)) != 0) = bitI x b := by
 show (IntKind.i64.wrap ((BitVec.ofInt 64 x &&& BitVec.ofInt 64 (wrap64 (2 ^ b))).toNat : Int) != 0) = bitI x b
 rw [ofInt_wrap_pow b h, BitVec.and_twoPow, IntKind.wrap_i64]
 unfold bitI
 obtain ⟨h1, h2⟩ := two_pow_le b h
 cases hb : (BitVec.ofInt 64 x).getLsbD b
 ·
  simp
 ·
  simp only [↓reduceIte, BitVec.toNat_twoPow]
  have e : 2 ^ b % 2 ^ 64 = 2 ^ b := Nat.mod_eq_of_lt (by
   calc 2 ^ b ≤ 9223372036854775808 := h2
    _ < 2 ^ 64 := by decide)
  rw [e]
  generalize 2 ^ b = p at *
  rw [bne_iff_ne]
  omega
theorem bit_shift (x : Int) (b : Nat) (h : b < 64) : (bits .and .u64 (IntKind.u64.wrap x / 2 ^ b) 1 == 1) = bitI x b := by
 have e0 : IntKind.u64.wrap x = ((BitVec.ofInt 64 x).toNat : Int) := by
  rw [Go.IntKind.wrap_u64, BitVec.toNat_ofInt]
  omega
 have hlt := (BitVec.ofInt 64 x).isLt
 have e : ((2 : Int) ^ b) = ((2 ^ b : Nat) : Int) := by simp
 rw [e0, e, ← Int.natCast_ediv]
 unfold bitI
 rw [BitVec.getLsbD]
 generalize (BitVec.ofInt 64 x).toNat = n at *
 have h3 : n / 2 ^ b ≤ n := Nat.div_le_self _ _
 have := u64_and_nat (n / 2 ^ b) 1 (by omega) (by omega)
 rw [show ((1 : Nat) : Int) = 1 from rfl] at this
 rw [this, Nat.and_one_is_mod, Nat.testBit_eq_decide_div_mod_eq]
 generalize n / 2 ^ b % 2 = m
 by_cases hm : m = 1
 ·
  subst hm; rfl
 ·
  have h1 : ((m : Int) == 1) = false := by simp; omega
  rw [h1]
  simp [hm]
def hasBit (lo hi : Int) (b : Nat) : Bool := if b < 64 then bitI lo b else if b < 128 then bitI hi (b - 64) else false
end Go.Proofs.YteihfioaahemkaaGreatDoor
namespace Go.Proofs.YteihfioaahemkaaGreatDoor
set_option linter.unusedVariables false
set_option linter.unusedSimpArgs false
set_option maxRecDepth 100000
open Go.RowKit
set_option maxHeartbeats 400000 in
theorem specHasByte_any (lo hi : Int) (b : Nat) (w : World) (hb : b < 256) :
  Calls Tryz.prog 100 #[.agg #[.int .i64 lo, .int .i64 hi], .int .u8 b] w fun e w' => e = .returned (.bool (hasBit lo hi b)) ∧ Bel w w' := by
 have B1 := hide (bit_and lo b)
 have B2 := hide (bit_and hi (b - 64))
 go_enter Tryz.func100, Tryz.ntmps100
 go_wp2
 all_goals
  go_returns
  go_light
  refine ⟨?_, bl⟩
  have B1 := B1.out
  have B2 := B2.out
  simp only [Array.getD_eq_getD_getElem?, List.getElem?_toArray, List.getElem?_cons_succ, List.getElem?_cons_zero, Option.getD_some]
  unfold hasBit
  grind
set_option maxHeartbeats 400000 in
theorem implHasByte_any (lo hi : Int) (b : Nat) (w : World) (hb : b < 256) :
  Calls Tryz.prog 106 #[.agg #[.int .i64 lo, .int .i64 hi], .int .u8 b] w fun e w' => e = .returned (.bool (hasBit lo hi b)) ∧ Bel w w' := by
 have B1 := hide (bit_shift lo b)
 have B2 := hide (bit_shift hi (b - 64))
 go_enter Tryz.func106, Tryz.ntmps106
 go_wp2
 all_goals
  go_returns
  go_light
  refine ⟨?_, bl⟩
  have B1 := B1.out
  have B2 := B2.out
  simp only [Array.getD_eq_getD_getElem?, List.getElem?_toArray, List.getElem?_cons_succ, List.getElem?_cons_zero, Option.getD_some]
  unfold hasBit
  grind
end Go.Proofs.YteihfioaahemkaaGreatDoor
namespace Go.Proofs.YteihfioaahemkaaGreatDoor
set_option linter.unusedVariables false
set_option linter.unusedSimpArgs false
set_option maxRecDepth 100000
open Go.RowKit
def csB (lo hi : Int) (k : Nat) : List Nat := (List.range k).filter (hasBit lo hi)
theorem csB_hit {lo hi : Int} {k : Nat} (h : hasBit lo hi k = true) : csB lo hi (k + 1) = csB lo hi k ++ [k] := by
 simp [csB, List.range_succ, h]
theorem csB_miss {lo hi : Int} {k : Nat} (h : hasBit lo hi k = false) : csB lo hi (k + 1) = csB lo hi k := by
 simp [csB, List.range_succ, h]
theorem csB_len (lo hi : Int) (k : Nat) : (csB lo hi k).length ≤ k := by
 have := List.length_filter_le (hasBit lo hi) (List.range k)
 simpa [csB] using this
theorem csB_lt (lo hi : Int) (k b : Nat) (h : b ∈ csB lo hi k) : b < k := by
 have := (List.mem_filter.1 h).1
 simpa using this
def csText (lo hi : Int) : ByteArray := ⟨((csB lo hi 128).map UInt8.ofNat).toArray⟩
theorem Tryz.info8 : (Tryz.prog.info? 5).map (fun i => (i.zero, i.size, i.bytes)) = some (some (.int .u8 0), 1, 1) := by kernel_rfl
theorem own_bel {wr w1 : World} {base : Nat} {e : TypeId} {size : Nat} {v : Value} {n : Nat} {xs : List Value} (h : wr.ownsRow base e size v n xs) (hb : Bel wr w1) : w1.ownsRow base e size v n xs := by
 refine ⟨h.1, h.2.elim Or.inl (fun ⟨g, cap, cur, hv, hg, hh, r⟩ => Or.inr ⟨g, cap, cur, hv, hg, ?_, r⟩)⟩
 have hlt : g < wr.heap.size := by
  rcases Nat.lt_or_ge g wr.heap.size with h' | h'
  ·
   exact h'
  ·
   rw [Array.getElem?_eq_none h'] at hh; cases hh
 rw [Below.block hb g hlt]; exact hh
theorem own_text (lo hi : Int) (wr : World) (base : Nat) (v : Value) (h : wr.ownsRow base 5 1 v (csB lo hi 128).length ((csB lo hi 128).map fun b : Nat => Value.int .u8 (b : Int))) :
  (convert 122 9 v).run Tryz.prog wr = .ok (.string (csText lo hi)) wr := by
 have h' := h
 rcases h.2 with ⟨rfl, h0⟩ | ⟨g, cap, cur, rfl, hg⟩
 ·
  have e : csB lo hi 128 = [] := by simpa using h0
  rw [Lib.run_convert_nil_bytes wr 122 9 5 0 Tryz.underlying122 Tryz.underlying5 Tryz.underlying9]
  unfold csText
  rw [e]; rfl
 ·
  unfold csText
  have hB := run_convert_bytes_back (P := Tryz.prog) wr 122 9 5 ⟨g, 0, none⟩ cap ((csB lo hi 128).map UInt8.ofNat) Tryz.underlying122 Tryz.underlying5 Tryz.underlying9 (fun j hj => by
   have hj2 : j < (csB lo hi 128).length := by simpa using hj
   rw [h'.cells rfl j (.int .u8 ((csB lo hi 128)[j] : Int)) (by simp [hj2])]
   have := csB_lt lo hi 128 _ (List.getElem_mem hj2)
   rw [List.getElem_map, UInt8.toNat_ofNat']
   congr 2
   omega)
  rw [List.length_map] at hB
  exact hB
set_option maxHeartbeats 2000000 in
theorem implCsetText_any (lo hi : Int) (w : World) :
  Calls Tryz.prog 82 #[.agg #[.int .i64 lo, .int .i64 hi]] w fun e w' => e = .returned (.string (csText lo hi)) ∧ Bel w w' := by
 obtain ⟨i0, hi0, iz0, iz1, iz2⟩ := info_parts Tryz.info8
 go_enter Tryz.func82, Tryz.ntmps82
 go_wp2_with (fail)
 go_loopw [3, 4] (fun v i wr => ∃ k : Nat, i = .int .i64 k ∧ k ≤ 128 ∧ wr.ownsRow (w.heap.size + 1) 5 1 v (csB lo hi k).length ((csB lo hi k).map fun b : Nat => Value.int .u8 (b : Int)) ∧ wr.cell? ⟨w.heap.size, 0, none⟩ = some (.int .i64 lo) ∧ wr.cell? ⟨w.heap.size, 1, none⟩ = some (.int .i64 hi) ∧ Bel w wr ∧ w.heap.size < wr.heap.size) (fun _ i _ => 128 - (intOf i).toNat)
 case atStart =>
  exact rk80
 case round =>
  obtain ⟨k, rfl, hk, hown, hc0, hc1, hbw, hlt⟩ := hrel
  by_cases h : k < 128
  ·
   have hd : decide ((k : Int) < 128) = true := by simp; omega
   have hw8 : IntKind.u8.wrap (k : Int) = k := by rw [IntKind.wrap_u8]; omega
   cases hb : hasBit lo hi k
   ·
    have HB := hide hb
    clear hb
    go_wp2_with ((go_at_call 106; refine (implHasByte_any lo hi k _ (by omega)).mono ?_; rintro e w1 ⟨rfl, hb1⟩; have hz1 := hb1.sz; obtain ⟨hk1_0, hf1_0, hl1_0, hn1_0⟩ := hb1.lay (w.heap.size); (try simp only [VVal.val])); rw [HB.out])
    have hown1 := own_bel hown hb1
    rw [← csB_miss HB.out] at hown1
    exact ⟨⟨k + 1, rfl, by omega, hown1, (by rw [hk1_0]; exact hc0), (by rw [hk1_0]; exact hc1), hbw.trans hb1, hl1_0⟩, by simp only [intOf]; omega⟩
   ·
    have HB := hide hb
    clear hb
    go_wp2_with (first
     | ((go_at_call 106; refine (implHasByte_any lo hi k _ (by omega)).mono ?_; rintro e w1 ⟨rfl, hb1⟩; have hz1 := hb1.sz; obtain ⟨hk1_0, hf1_0, hl1_0, hn1_0⟩ := hb1.lay (w.heap.size); (try simp only [VVal.val])); rw [HB.out]; have hown1 := own_bel hown hb1)
     | (at_builtin; go_loud (refine wpList_append_own _ rfl _ _ 122 rfl (w.heap.size + 1) 5 i0 (.int .u8 0) 1 1 Tryz.underlying122 hi0 iz0 iz1 iz2 rfl (by decide) _ _ _ rfl (hown1.alloc _) ⟨w1.heap.size, 0, none⟩ 1 1 [.int .u8 k] rfl rfl ?c1 ?c2 ?c3 ?c4 ?c5 ?_)))
    case c1 =>
     intro j u hj
     match j, hj with
     | 0, hj => simp at hj; subst hj; simp [Addr.add]
    case c2 => intro u hu; simp at hu; subst hu; rfl
    case c3 => have := csB_len lo hi k; unfold maxLen; omega
    case c4 => have := csB_len lo hi k; omega
    case c5 => simp; omega
    intro v' w2 hown2 hgrow _
    have hbw2 : Bel w w2 := Below.grown (Bel.alloc (hbw.trans hb1) _) hgrow (by simp; omega) (fun q hq => by have := (hown1.lt q hq).1; omega)
    have hsz2 : w1.heap.size < w2.heap.size := by have := hgrow.size; simp at this; omega
    have hne : some w.heap.size ≠ u3.ownBlock := fun hq => by have := (hown1.lt _ hq.symm).1; omega
    have hd0 : w2.cell? ⟨w.heap.size, 0, none⟩ = some (.int .i64 lo) := World.grownBy.cell hgrow (((Bel.alloc (Bel.refl w1) _).box w.heap.size hl1_0 0).trans ((hk1_0 0).trans hc0)) hne
    have hd1 : w2.cell? ⟨w.heap.size, 1, none⟩ = some (.int .i64 hi) := World.grownBy.cell hgrow (((Bel.alloc (Bel.refl w1) _).box w.heap.size hl1_0 1).trans ((hk1_0 1).trans hc1)) hne
    have hown3 : w2.ownsRow (w.heap.size + 1) 5 1 v' (csB lo hi (k + 1)).length ((csB lo hi (k + 1)).map fun b : Nat => Value.int .u8 (b : Int)) := by
     rw [csB_hit HB.out, List.length_append, List.map_append]; exact hown2
    clear hgrow hown2 hown1 hown hne
    go_wp2_with (fail)
    exact ⟨⟨k + 1, rfl, by omega, hown3, hd0, hd1, hbw2, by omega⟩, by simp only [intOf]; omega⟩
  ·
   obtain rfl : k = 128 := by omega
   have hT := own_text lo hi wr _ _ hown
   go_wp2_with (fail)
   all_goals
    go_returns
    exact ⟨rfl, bl⟩
end Go.Proofs.YteihfioaahemkaaGreatDoor
namespace Go.Proofs.YteihfioaahemkaaGreatDoor
set_option linter.unusedVariables false
set_option linter.unusedSimpArgs false
set_option maxRecDepth 100000
open Go.RowKit
set_option maxHeartbeats 2000000 in
theorem specCsetText_any (lo hi : Int) (w : World) :
  Calls Tryz.prog 75 #[.agg #[.int .i64 lo, .int .i64 hi]] w fun e w' => e = .returned (.string (csText lo hi)) ∧ Bel w w' := by
 obtain ⟨i0, hi0, iz0, iz1, iz2⟩ := info_parts Tryz.info8
 go_enter Tryz.func75, Tryz.ntmps75
 go_wp2_with (fail)
 go_loopw [3, 4] (fun v i wr => ∃ k : Nat, i = .int .i64 k ∧ k ≤ 128 ∧ wr.ownsRow (w.heap.size + 1) 5 1 v (csB lo hi k).length ((csB lo hi k).map fun b : Nat => Value.int .u8 (b : Int)) ∧ wr.cell? ⟨w.heap.size, 0, none⟩ = some (.int .i64 lo) ∧ wr.cell? ⟨w.heap.size, 1, none⟩ = some (.int .i64 hi) ∧ Bel w wr ∧ w.heap.size < wr.heap.size) (fun _ i _ => 128 - (intOf i).toNat)
 case atStart =>
  exact rk80
 case round =>
  obtain ⟨k, rfl, hk, hown, hc0, hc1, hbw, hlt⟩ := hrel
  by_cases h : k < 128
  ·
   have hd : decide ((k : Int) < 128) = true := by simp; omega
   have hw8 : IntKind.u8.wrap (k : Int) = k := by rw [IntKind.wrap_u8]; omega
   cases hb : hasBit lo hi k
   ·
    have HB := hide hb
    clear hb
    go_wp2_with ((go_at_call 100; refine (specHasByte_any lo hi k _ (by omega)).mono ?_; rintro e w1 ⟨rfl, hb1⟩; have hz1 := hb1.sz; obtain ⟨hk1_0, hf1_0, hl1_0, hn1_0⟩ := hb1.lay (w.heap.size); (try simp only [VVal.val])); rw [HB.out])
    have hown1 := own_bel hown hb1
    rw [← csB_miss HB.out] at hown1
    exact ⟨⟨k + 1, rfl, by omega, hown1, (by rw [hk1_0]; exact hc0), (by rw [hk1_0]; exact hc1), hbw.trans hb1, hl1_0⟩, by simp only [intOf]; omega⟩
   ·
    have HB := hide hb
    clear hb
    go_wp2_with (first
     | ((go_at_call 100; refine (specHasByte_any lo hi k _ (by omega)).mono ?_; rintro e w1 ⟨rfl, hb1⟩; have hz1 := hb1.sz; obtain ⟨hk1_0, hf1_0, hl1_0, hn1_0⟩ := hb1.lay (w.heap.size); (try simp only [VVal.val])); rw [HB.out]; have hown1 := own_bel hown hb1)
     | (at_builtin; go_loud (refine wpList_append_own _ rfl _ _ 122 rfl (w.heap.size + 1) 5 i0 (.int .u8 0) 1 1 Tryz.underlying122 hi0 iz0 iz1 iz2 rfl (by decide) _ _ _ rfl (hown1.alloc _) ⟨w1.heap.size, 0, none⟩ 1 1 [.int .u8 k] rfl rfl ?c1 ?c2 ?c3 ?c4 ?c5 ?_)))
    case c1 =>
     intro j u hj
     match j, hj with
     | 0, hj => simp at hj; subst hj; simp [Addr.add]
    case c2 => intro u hu; simp at hu; subst hu; rfl
    case c3 => have := csB_len lo hi k; unfold maxLen; omega
    case c4 => have := csB_len lo hi k; omega
    case c5 => simp; omega
    intro v' w2 hown2 hgrow _
    have hbw2 : Bel w w2 := Below.grown (Bel.alloc (hbw.trans hb1) _) hgrow (by simp; omega) (fun q hq => by have := (hown1.lt q hq).1; omega)
    have hsz2 : w1.heap.size < w2.heap.size := by have := hgrow.size; simp at this; omega
    have hne : some w.heap.size ≠ u3.ownBlock := fun hq => by have := (hown1.lt _ hq.symm).1; omega
    have hd0 : w2.cell? ⟨w.heap.size, 0, none⟩ = some (.int .i64 lo) := World.grownBy.cell hgrow (((Bel.alloc (Bel.refl w1) _).box w.heap.size hl1_0 0).trans ((hk1_0 0).trans hc0)) hne
    have hd1 : w2.cell? ⟨w.heap.size, 1, none⟩ = some (.int .i64 hi) := World.grownBy.cell hgrow (((Bel.alloc (Bel.refl w1) _).box w.heap.size hl1_0 1).trans ((hk1_0 1).trans hc1)) hne
    have hown3 : w2.ownsRow (w.heap.size + 1) 5 1 v' (csB lo hi (k + 1)).length ((csB lo hi (k + 1)).map fun b : Nat => Value.int .u8 (b : Int)) := by
     rw [csB_hit HB.out, List.length_append, List.map_append]; exact hown2
    clear hgrow hown2 hown1 hown hne
    go_wp2_with (fail)
    exact ⟨⟨k + 1, rfl, by omega, hown3, hd0, hd1, hbw2, by omega⟩, by simp only [intOf]; omega⟩
  ·
   obtain rfl : k = 128 := by omega
   have hT := own_text lo hi wr _ _ hown
   go_wp2_with (fail)
   all_goals
    go_returns
    exact ⟨rfl, bl⟩
end Go.Proofs.YteihfioaahemkaaGreatDoor
namespace Go.Proofs.YteihfioaahemkaaGreatDoor
set_option linter.unusedVariables false
set_option linter.unusedSimpArgs false
set_option maxRecDepth 100000
open Go.RowKit
open Go.Sort in
theorem bel_itoa (w : World) (q : Nat) (os : Array Obj) : Bel w (grow (w.drewN q) os) :=
 ⟨rfl, rfl, rfl, by simp [grow], fun i hi => by
  show ((w.drewN q).heap ++ os)[i]? = _
  rw [Array.getElem?_append_left (by show i < w.heap.size; omega)]
  rfl⟩
theorem implFormatInt_any (n : Int) (w : World) (hn : InI n) (ht : P10 w) :
  Calls Tryz.prog 63 #[.int .i64 n] w fun e w' => e = .returned (.string ⟨(Lib.itoa n).toArray⟩) ∧ Bel w w' := by
 have hI := Tryz.strconv_Itoa n hn.1 hn.2 w ht
 go_enter Tryz.func63, Tryz.ntmps63
 go_wp2_with (go_at_call 90; refine hI.mono ?_; rintro e w1 ⟨rfl, k, os, hw1⟩; have hb1 : Bel w w1 := (by rw [hw1]; exact bel_itoa w k os); clear hw1)
 all_goals
  go_returns
  exact ⟨rfl, bl⟩
end Go.Proofs.YteihfioaahemkaaGreatDoor
namespace Go.Proofs.YteihfioaahemkaaGreatDoor
set_option linter.unusedVariables false
set_option linter.unusedSimpArgs false
set_option maxRecDepth 100000
open Go.RowKit
def ttT (v : VVal) : ByteArray := if v.k = 1 then ⟨(Lib.itoa v.n).toArray⟩ else if v.k = 2 then v.t else if v.k = 3 ∧ (csText v.lo v.hi).size ≤ 120 then csText v.lo v.hi else ByteArray.empty
def ttB (v : VVal) : Bool := decide (v.k = 1) || decide (v.k = 2) || (decide (v.k = 3) && decide ((csText v.lo v.hi).size ≤ 120))
set_option maxHeartbeats 2000000 in
theorem specToText_any (v : VVal) (w : World) (hv : v.Ok) :
  Calls Tryz.prog 41 #[v.val] w fun e w' => e = .returned (.tuple #[.string (ttT v), .bool (ttB v)]) ∧ Bel w w' := by
 have hn := hv.n
 obtain ⟨k, n, i, t, lo, hi⟩ := v
 simp only [VVal.val]
 simp only at hn
 by_cases h1 : k = 1
 ·
  subst h1
  rw [show ttT ⟨1, n, i, t, lo, hi⟩ = ⟨(Lib.itoa n).toArray⟩ from rfl, show ttB ⟨1, n, i, t, lo, hi⟩ = true by simp [ttB]]
  exact rk27
 by_cases h2 : k = 2
 ·
  subst h2
  rw [show ttT ⟨2, n, i, t, lo, hi⟩ = t from rfl, show ttB ⟨2, n, i, t, lo, hi⟩ = true by simp [ttB]]
  exact rk27
 by_cases h3 : k = 3
 ·
  subst h3
  by_cases hz : (csText lo hi).size ≤ 120
  ·
   rw [show ttT ⟨3, n, i, t, lo, hi⟩ = csText lo hi by simp [ttT, hz], show ttB ⟨3, n, i, t, lo, hi⟩ = true by simp [ttB, hz]]
   exact rk27
  ·
   rw [show ttT ⟨3, n, i, t, lo, hi⟩ = ByteArray.empty by simp [ttT, hz], show ttB ⟨3, n, i, t, lo, hi⟩ = false by simp [ttB, hz]]
   exact rk27
 ·
  rw [show ttT ⟨k, n, i, t, lo, hi⟩ = ByteArray.empty by simp [ttT, h1, h2, h3], show ttB ⟨k, n, i, t, lo, hi⟩ = false by simp [ttB, h1, h2, h3]]
  have e1 : (k == 1) = false := by simp [h1]
  have e2 : (k == 2) = false := by simp [h2]
  have e3 : (k == 3) = false := by simp [h3]
  exact rk27
set_option maxHeartbeats 2000000 in
theorem implToText_any (v : VVal) (w : World) (hv : v.Ok) (ht : P10 w) :
  Calls Tryz.prog 48 #[v.val] w fun e w' => e = .returned (.tuple #[.string (ttT v), .bool (ttB v)]) ∧ Bel w w' := by
 have hn := hv.n
 obtain ⟨k, n, i, t, lo, hi⟩ := v
 simp only [VVal.val]
 simp only at hn
 by_cases h1 : k = 1
 ·
  subst h1
  rw [show ttT ⟨1, n, i, t, lo, hi⟩ = ⟨(Lib.itoa n).toArray⟩ from rfl, show ttB ⟨1, n, i, t, lo, hi⟩ = true by simp [ttB]]
  exact rk25
 by_cases h2 : k = 2
 ·
  subst h2
  rw [show ttT ⟨2, n, i, t, lo, hi⟩ = t from rfl, show ttB ⟨2, n, i, t, lo, hi⟩ = true by simp [ttB]]
  exact rk25
 by_cases h3 : k = 3
 ·
  subst h3
  by_cases hz : (csText lo hi).size ≤ 120
  ·
   rw [show ttT ⟨3, n, i, t, lo, hi⟩ = csText lo hi by simp [ttT, hz], show ttB ⟨3, n, i, t, lo, hi⟩ = true by simp [ttB, hz]]
   exact rk25
  ·
   rw [show ttT ⟨3, n, i, t, lo, hi⟩ = ByteArray.empty by simp [ttT, hz], show ttB ⟨3, n, i, t, lo, hi⟩ = false by simp [ttB, hz]]
   exact rk25
 ·
  rw [show ttT ⟨k, n, i, t, lo, hi⟩ = ByteArray.empty by simp [ttT, h1, h2, h3], show ttB ⟨k, n, i, t, lo, hi⟩ = false by simp [ttB, h1, h2, h3]]
  have e1 : (k == 1) = false := by simp [h1]
  have e2 : (k == 2) = false := by simp [h2]
  have e3 : (k == 3) = false := by simp [h3]
  exact rk25
end Go.Proofs.YteihfioaahemkaaGreatDoor
namespace Go.Proofs.YteihfioaahemkaaGreatDoor
set_option linter.unusedVariables false
set_option linter.unusedSimpArgs false
set_option maxRecDepth 100000
open Go.RowKit
def ByL (L : List Nat) : List Value := L.map fun (x : Nat) => Value.int .u8 (x : Int)
def txt (L : List Nat) : ByteArray := ⟨(L.map UInt8.ofNat).toArray⟩
theorem txt_size (L : List Nat) : (txt L).size = L.length := by unfold txt; simp [ByteArray.size]
theorem infoQ8 : (Tryz.prog.info? 5).map (fun i => (i.zero, i.size, i.bytes)) = some (some (.int .u8 0), 1, 1) := by kernel_rfl
theorem bytes_text (L : List Nat) (hL : ∀ x ∈ L, x < 256) (wr : World) (base : Nat) (v : Value) (h : wr.ownsRow base 5 1 v L.length (ByL L)) :
  (convert 122 9 v).run Tryz.prog wr = .ok (.string (txt L)) wr := by
 have h' := h
 rcases h.2 with ⟨rfl, h0⟩ | ⟨g, cap, cur, rfl, hg⟩
 ·
  obtain rfl : L = [] := List.length_eq_zero_iff.1 h0
  rw [Lib.run_convert_nil_bytes wr 122 9 5 0 Tryz.underlying122 Tryz.underlying5 Tryz.underlying9]
  rfl
 ·
  have hB := run_convert_bytes_back (P := Tryz.prog) wr 122 9 5 ⟨g, 0, none⟩ cap (L.map UInt8.ofNat) Tryz.underlying122 Tryz.underlying5 Tryz.underlying9 (fun j hj => by
   have hj2 : j < L.length := by simpa using hj
   rw [h'.cells rfl j (.int .u8 (L[j] : Int)) (by simp [ByL, hj2])]
   have := hL L[j] (List.getElem_mem hj2)
   rw [List.getElem_map, UInt8.toNat_ofNat']
   congr 2
   omega)
  rw [List.length_map] at hB
  exact hB
theorem own_belQ {w w' : World} {base : Nat} {e : TypeId} {size n : Nat} {v : Value} {xs : List Value} (h : w.ownsRow base e size v n xs) (hb : Bel w w') : w'.ownsRow base e size v n xs := by
 refine ⟨h.1, ?_⟩
 rcases h.2 with hn | ⟨g, cap, cur, rfl, hbg, hg, r⟩
 ·
  exact .inl hn
 ·
  have hl : g < w.heap.size := by
   rcases Nat.lt_or_ge g w.heap.size with h' | h'
   ·
    exact h'
   ·
    rw [Array.getElem?_eq_none h'] at hg; cases hg
  exact .inr ⟨g, cap, cur, rfl, hbg, (Below.block hb g hl).trans hg, r⟩
theorem own_new (w : World) (base : Nat) (e : TypeId) (n : Nat) (cur : Array Value) (hb : base ≤ w.heap.size) (hn : cur.size = n) (hm : n ≤ maxLen) : (w.alloc (.cells cur e)).ownsRow base e 1 (.slice (some ⟨w.heap.size, 0, none⟩) n n) n cur.toList :=
 ⟨by simp [hn], .inr ⟨w.heap.size, n, cur, rfl, hb, heap_alloc_new w _, Nat.le_refl _, hm, by simp [hn], by rw [List.take_of_length_le (by simp [hn])]⟩⟩
def hexd (x : Nat) : Nat := if x < 10 then 48 + x else 87 + x
def escB (q b : Nat) : List Nat := if b = q ∨ b = 92 then [92, b] else if b = 10 then [92, 110] else if b = 9 then [92, 116] else if b < 32 ∨ 126 < b then [92, 120, hexd (b / 16), hexd (b % 16)] else [b]
theorem escB_len (q b : Nat) : (escB q b).length ≤ 4 := by unfold escB; (repeat' split) <;> simp
theorem escB_lt (q b : Nat) (hq : q < 256) (hb : b < 256) : ∀ x ∈ escB q b, x < 256 := by
 intro x hx
 unfold escB hexd at hx
 split at hx
 ·
  simp at hx; omega
 ·
  split at hx
  ·
   simp at hx; omega
  ·
   split at hx
   ·
    simp at hx; omega
   ·
    split at hx
    ·
     simp at hx
     rcases hx with rfl | rfl | rfl | rfl
     ·
      omega
     ·
      omega
     ·
      split <;> omega
     ·
      split <;> omega
    ·
     simp at hx; omega
def qtL (q : Nat) (s : ByteArray) : Nat → List Nat
 | 0 => [q]
 | k + 1 => qtL q s k ++ escB q (byteAt s k)
theorem qtL_len (q : Nat) (s : ByteArray) : ∀ k, (qtL q s k).length ≤ 1 + 4 * k
 | 0 => by simp [qtL]
 | k + 1 => by
  have := qtL_len q s k
  have := escB_len q (byteAt s k)
  simp only [qtL, List.length_append]
  omega
theorem qtL_lt (q : Nat) (s : ByteArray) (hq : q < 256) : ∀ k, ∀ x ∈ qtL q s k, x < 256
 | 0 => by simp [qtL, hq]
 | k + 1 => by
  intro x hx
  simp only [qtL, List.mem_append] at hx
  rcases hx with hx | hx
  ·
   exact qtL_lt q s hq k x hx
  ·
   exact escB_lt q _ hq (byteAt_lt s k) x hx
def qt (q : Nat) (s : ByteArray) : ByteArray := txt (qtL q s s.size ++ [q])
theorem ByL_append (a b : List Nat) : ByL (a ++ b) = ByL a ++ ByL b := by simp [ByL]
set_option maxHeartbeats 400000 in
theorem l4Hex_any (x : Nat) (w : World) (hx : x < 16) : Calls Tryz.prog 107 #[.int .i64 (x : Int)] w fun e w' => e = .returned (.int .u8 (hexd x : Nat)) ∧ w = w' := by
 by_cases h : x < 10
 ·
  have hd : decide ((x : Int) < 10) = true := by simp; omega
  have hw : IntKind.u8.wrap (48 + (x : Int)) = 48 + x := by rw [IntKind.wrap_u8]; omega
  go_enter Tryz.func107, Tryz.ntmps107
  go_wp2
  all_goals
   go_returns
   exact ⟨by unfold hexd; rw [if_pos h]; rfl, rfl⟩
 ·
  have hd : decide ((x : Int) < 10) = false := by simp; omega
  have hw : IntKind.u8.wrap (87 + (x : Int)) = 87 + x := by rw [IntKind.wrap_u8]; omega
  go_enter Tryz.func107, Tryz.ntmps107
  go_wp2
  all_goals
   go_returns
   exact ⟨by unfold hexd; rw [if_neg h]; rfl, rfl⟩
end Go.Proofs.YteihfioaahemkaaGreatDoor
