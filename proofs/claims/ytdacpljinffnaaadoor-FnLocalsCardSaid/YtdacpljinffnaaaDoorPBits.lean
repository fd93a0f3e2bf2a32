/- One bit of a set's word: three ways to ask it are one. -/
import Derived.Test.YtdacpljinffnaaaDoorPB
import Derived.Laws.BitsAllLaws
import Derived.Deep.QuietTactic
import Derived.BigQuiet
import Derived.Test.YtdacpljinffnaaaDoorPE1
import Derived.Laws.IdiomStrings
import Derived.Lib.BufferRead
namespace Go.Proofs.YtdacpljinffnaaaDoor
set_option linter.unusedVariables false
set_option linter.unusedSimpArgs false
set_option maxRecDepth 100000
open Go.RowKit
def bitI (x : Int) (b : Nat) : Bool := (BitVec.ofInt 64 x).getLsbD b
theorem two_pow_le (b : Nat) (h : b < 64) : 1 ≤ 2 ^ b ∧ 2 ^ b ≤ 9223372036854775808 := by
 refine ⟨Nat.one_le_two_pow, ?_⟩
 calc 2 ^ b ≤ 2 ^ 63 := Nat.pow_le_pow_right (by omega) (by omega)
  _ = 9223372036854775808 := by decide
theorem ofInt_wrap_pow (b : Nat) (h : b < 64) : BitVec.ofInt 64 (wrap64 (2 ^ b)) = BitVec.twoPow 64 b := by
 apply BitVec.eq_of_toNat_eq
 rw [BitVec.toNat_ofInt, BitVec.toNat_twoPow]
 obtain ⟨h1, h2⟩ := two_pow_le b h
 have e : ((2 : Int) ^ b) = ((2 ^ b : Nat) : Int) := by simp
 rw [e]
 generalize 2 ^ b = p at *
 unfold wrap64
 omega
theorem bit_and (x : Int) (b : Nat) (h : b < 64) : (bits .and .i64 x (wrap64 (2 ^ b)) != 0) = bitI x b := by
 show (IntKind.i64.wrap ((BitVec.ofInt 64 x &&& BitVec.ofInt 64 (wrap64 (2 ^ b))).toNat : Int) != 0) = bitI x b
 rw [ofInt_wrap_pow b h, BitVec.and_twoPow, IntKind.wrap_i64]
 unfold bitI
 obtain ⟨h1, h2⟩ := two_pow_le b h
 cases hb : (BitVec.ofInt 64 x).getLsbD b
 ·
  simp
 ·
  simp only [↓reduceIte, BitVec.toNat_twoPow]
  have e : 2 ^ b % 2 ^ 64 = 2 ^ b := Nat.mod_eq_of_lt (by
   calc 2 ^ b ≤ 9223372036854775808 := h2
    _ < 2 ^ 64 := by decide)
  rw [e]
  generalize 2 ^ b = p at *
  rw [bne_iff_ne]
  omega
def hasBit (lo hi : Int) (b : Nat) : Bool := if b < 64 then bitI lo b else if b < 128 then bitI hi (b - 64) else false
end Go.Proofs.YtdacpljinffnaaaDoor
namespace Go.Proofs.YtdacpljinffnaaaDoor
set_option linter.unusedVariables false
set_option linter.unusedSimpArgs false
set_option maxRecDepth 100000
open Go.RowKit
def orB (x : Int) (b : Nat) : Int := IntKind.i64.wrap ((BitVec.ofInt 64 x ||| BitVec.twoPow 64 b).toNat : Int)
theorem or_int (x : Int) (b : Nat) (h : b < 64) : bits .or .i64 x (wrap64 (2 ^ b)) = orB x b := by
 show IntKind.i64.wrap ((BitVec.ofInt 64 x ||| BitVec.ofInt 64 (wrap64 (2 ^ b))).toNat : Int) = _
 rw [ofInt_wrap_pow b h]; rfl
theorem orB_in (x : Int) (b : Nat) : InI (orB x b) := by
 unfold orB InI
 rw [IntKind.wrap_i64]
 omega
def addLo (lo : Int) (b : Nat) : Int := if b < 64 then orB lo b else lo
def addHi (hi : Int) (b : Nat) : Int := if b < 64 then hi else orB hi (b - 64)
def nsF (s : ByteArray) : Nat → Nat → Int → Int → Option (Int × Int)
 | 0, _, lo, hi => some (lo, hi)
 | f + 1, i, lo, hi => if byteAt s i ≤ 127 then nsF s f (i + 1) (addLo lo (byteAt s i)) (addHi hi (byteAt s i)) else none
def ns (s : ByteArray) (i : Nat) (lo hi : Int) : Option (Int × Int) := nsF s (s.size - i) i lo hi
theorem ns_end {s : ByteArray} {i : Nat} {lo hi : Int} (h : ¬ i < s.size) : ns s i lo hi = some (lo, hi) := by
 unfold ns
 rw [show s.size - i = 0 by omega, nsF]
theorem ns_bad {s : ByteArray} {i : Nat} {lo hi : Int} (h : i < s.size) (hb : ¬ byteAt s i ≤ 127) : ns s i lo hi = none := by
 unfold ns
 rw [show s.size - i = (s.size - (i + 1)) + 1 by omega, nsF, if_neg hb]
theorem ns_yes {s : ByteArray} {i : Nat} {lo hi : Int} (h : i < s.size) (hb : byteAt s i ≤ 127) : ns s (i + 1) (addLo lo (byteAt s i)) (addHi hi (byteAt s i)) = ns s i lo hi := by
 unfold ns
 rw [show s.size - i = (s.size - (i + 1)) + 1 by omega, nsF, if_pos hb]
def nsLo (s : ByteArray) : Int := ((ns s 0 0 0).getD (0, 0)).1
def nsHi (s : ByteArray) : Int := ((ns s 0 0 0).getD (0, 0)).2
def nsOk (s : ByteArray) : Bool := (ns s 0 0 0).isSome
set_option maxHeartbeats 400000 in
theorem specAdd_any (lo hi : Int) (b : Nat) (w : World) (hb : b ≤ 127) :
  Calls Tryd.prog 78 #[.agg #[.int .i64 lo, .int .i64 hi], .int .u8 b] w fun e w' => e = .returned (.agg #[.int .i64 (addLo lo b), .int .i64 (addHi hi b)]) ∧ Bel w w' := by
 have B1 := hide (or_int lo b)
 have B2 := hide (or_int hi (b - 64))
 go_enter Tryd.func78, Tryd.ntmps78
 go_wp2
 all_goals
  go_returns
  try go_light
  refine ⟨?_, bl⟩
  have B1 := B1.out
  have B2 := B2.out
  (try simp only [Array.getD_eq_getD_getElem?, List.getElem?_toArray, List.getElem?_cons_succ, List.getElem?_cons_zero, Option.getD_some])
  unfold addLo addHi
  grind
def Box2 (w : World) (b : Nat) (x y : Int) : Prop := w.cell? ⟨b, 0, none⟩ = some (.int .i64 x) ∧ w.cell? ⟨b, 1, none⟩ = some (.int .i64 y) ∧ w.frozen? ⟨b, 0, none⟩ = false ∧ w.frozen? ⟨b, 1, none⟩ = false ∧ b < w.heap.size
theorem Box2.on {w w' : World} {b : Nat} {x y : Int} (h : Box2 w b x y) (hb : Bel w w') : Box2 w' b x y :=
 ⟨(hb.box b h.2.2.2.2 0).trans h.1, (hb.box b h.2.2.2.2 1).trans h.2.1, (hb.boxf b h.2.2.2.2 0).trans h.2.2.1, (hb.boxf b h.2.2.2.2 1).trans h.2.2.2.1, Nat.lt_of_lt_of_le h.2.2.2.2 hb.size⟩
theorem Box2.put {w : World} {b : Nat} {x y : Int} (h : Box2 w b x y) (x' y' : Int) : Box2 ((w.setCell ⟨b, 0, none⟩ (.int .i64 x')).setCell ⟨b, 1, none⟩ (.int .i64 y')) b x' y' := by
 obtain ⟨h0, h1, h2, h3, h4⟩ := h
 have n1 : (⟨b, 0, none⟩ : Addr) ≠ ⟨b, 1, none⟩ := by simp
 refine ⟨?_, ?_, by simpa using h2, by simpa using h3, by simpa using h4⟩
 ·
  rw [World.cell?_setCell_other (h := n1.symm), World.cell?_setCell_same (h := h0)]
 ·
  rw [World.cell?_setCell_same (u := .int .i64 y) (h := ?_)]
  rw [World.cell?_setCell_other (h := n1)]; exact h1
theorem Box2.apart {w : World} {b b' : Nat} {x y : Int} (h : Box2 w b x y) (hn : b' ≠ b) (u v : Value) : Box2 ((w.setCell ⟨b', 0, none⟩ u).setCell ⟨b', 1, none⟩ v) b x y := by
 obtain ⟨h0, h1, h2, h3, h4⟩ := h
 refine ⟨?_, ?_, by simpa using h2, by simpa using h3, by simpa using h4⟩
 ·
  rw [World.cell?_setCell_far _ _ _ _ hn, World.cell?_setCell_far _ _ _ _ hn]; exact h0
 ·
  rw [World.cell?_setCell_far _ _ _ _ hn, World.cell?_setCell_far _ _ _ _ hn]; exact h1
set_option maxHeartbeats 1000000 in
theorem specNewCset_any (s : ByteArray) (w : World) (hs : s.size ≤ maxLen) :
  Calls Tryd.prog 68 #[.string s] w fun e w' => e = .returned (.tuple #[.agg #[.int .i64 (nsLo s), .int .i64 (nsHi s)], .bool (nsOk s)]) ∧ Bel w w' := by
 unfold maxLen at hs
 go_enter Tryd.func68, Tryd.ntmps68
 go_wp2_with (fail)
 go_loopw [5] (fun i wr => ∃ (k : Nat) (lo hi : Int), i = .int .i64 k ∧ k ≤ s.size ∧ Hid (ns s k lo hi = ns s 0 0 0) ∧ Box2 wr w.heap.size 0 0 ∧ Box2 wr (w.heap.size + 1) lo hi ∧ Bel w wr) (fun i _ => s.size - (intOf i).toNat)
 case atStart => exact ⟨0, 0, 0, rfl, by omega, rfl, ⟨by simp, by simp, by simp, by simp, by simp; omega⟩, ⟨by simp, by simp, by simp, by simp, by simp⟩, bl⟩
 case round =>
  obtain ⟨k, lo, hi, rfl, hk, hN, R, C, hbw⟩ := hrel
  have R' := R
  have C' := C
  obtain ⟨r0, r1, r2, r3, r4⟩ := R'
  obtain ⟨c0, c1, c2, c3, c4⟩ := C'
  by_cases h1 : k < s.size
  ·
   have hd : decide ((k : Int) < (s.size : Int)) = true := by simp; omega
   have hB := hide (byteAt_eq s k h1)
   by_cases h2 : byteAt s k ≤ 127
   ·
    have h3 : s[k].toNat ≤ 127 := by rw [hB.out]; exact h2
    have hE := hide (ns_yes (lo := lo) (hi := hi) h1 h2)
    have hbd : Bel wr wr.drew := bl
    have R1 := R.on hbd
    have C1 := C.on hbd
    go_wp2_with (fail)
    (refine wp_region_still_tail 4 (by kernel_rfl) (by kernel_rfl) ?_; simp only [List.take_succ_cons, List.take_zero, List.drop_succ_cons, List.drop_zero]; change wpStill _ _ (World.drew (wr)) _ _ _)
    repeat still_step
    refine wpStill_nil ?_
    clear r0 r1 r2 r3 r4 c0 c1 c2 c3 c4
    go_wp2_with (go_at_call 78; rw [hB.out]; refine (specAdd_any lo hi _ _ h2).mono ?_; rintro e w3 ⟨rfl, hb3⟩; have R3 := R1.on hb3; have C3 := C1.on hb3; obtain ⟨c0, c1, c2, c3, c4⟩ := C3)
    have R4 := R3.apart (b' := w.heap.size + 1) (by omega) (.int .i64 (addLo lo (byteAt s k))) (.int .i64 (addHi hi (byteAt s k)))
    have C4 := Box2.put (⟨c0, c1, c2, c3, c4⟩ : Box2 w3 (w.heap.size + 1) lo hi) (addLo lo (byteAt s k)) (addHi hi (byteAt s k))
    exact ⟨⟨k + 1, _, _, rfl, h1, hide (hE.out.trans hN.out), R4, C4, bl⟩, by simp only [intOf]; omega⟩
   ·
    have h3 : 127 < s[k].toNat := by rw [hB.out]; omega
    have hE := hide (ns_bad (lo := lo) (hi := hi) h1 h2)
    have e1 := hide (show ns s 0 0 0 = none from hN.out.symm.trans hE.out)
    go_wp2_with (fail)
    have D := R.put 0 0
    obtain ⟨d0, d1, d2, d3, d4⟩ := D
    rw [show nsLo s = 0 by unfold nsLo; rw [e1.out]; rfl, show nsHi s = 0 by unfold nsHi; rw [e1.out]; rfl, show nsOk s = false by unfold nsOk; rw [e1.out]; rfl]
    exact bodyPost_ret (by simp [results, Tryd.results68, d0, d1, go_sem]; try rfl) rfl ⟨rfl, bl⟩
  ·
   have hE := hide (ns_end (lo := lo) (hi := hi) h1)
   have hd : decide ((k : Int) < (s.size : Int)) = false := by simp; omega
   have e1 := hide (show ns s 0 0 0 = some (lo, hi) from hN.out.symm.trans hE.out)
   go_wp2_with (fail)
   have D := R.put lo hi
   obtain ⟨d0, d1, d2, d3, d4⟩ := D
   rw [show nsLo s = lo by unfold nsLo; rw [e1.out]; rfl, show nsHi s = hi by unfold nsHi; rw [e1.out]; rfl, show nsOk s = true by unfold nsOk; rw [e1.out]; rfl]
   exact bodyPost_ret (by simp [results, Tryd.results68, d0, d1, go_sem]; try rfl) rfl ⟨rfl, bl⟩
end Go.Proofs.YtdacpljinffnaaaDoor
namespace Go.Proofs.YtdacpljinffnaaaDoor
set_option linter.unusedVariables false
set_option linter.unusedSimpArgs false
set_option maxRecDepth 100000
open Go.RowKit
set_option maxHeartbeats 400000 in
theorem specHasByte_any (lo hi : Int) (b : Nat) (w : World) (hb : b < 256) :
  Calls Tryd.prog 67 #[.agg #[.int .i64 lo, .int .i64 hi], .int .u8 b] w fun e w' => e = .returned (.bool (hasBit lo hi b)) ∧ Bel w w' := by
 have B1 := hide (bit_and lo b)
 have B2 := hide (bit_and hi (b - 64))
 go_enter Tryd.func67, Tryd.ntmps67
 go_wp2
 all_goals
  go_returns
  go_light
  refine ⟨?_, bl⟩
  have B1 := B1.out
  have B2 := B2.out
  simp only [Array.getD_eq_getD_getElem?, List.getElem?_toArray, List.getElem?_cons_succ, List.getElem?_cons_zero, Option.getD_some]
  unfold hasBit
  grind
end Go.Proofs.YtdacpljinffnaaaDoor
namespace Go.Proofs.YtdacpljinffnaaaDoor
set_option linter.unusedVariables false
set_option linter.unusedSimpArgs false
set_option maxRecDepth 100000
open Go.RowKit
def csB (lo hi : Int) (k : Nat) : List Nat := (List.range k).filter (hasBit lo hi)
theorem csB_hit {lo hi : Int} {k : Nat} (h : hasBit lo hi k = true) : csB lo hi (k + 1) = csB lo hi k ++ [k] := by
 simp [csB, List.range_succ, h]
theorem csB_miss {lo hi : Int} {k : Nat} (h : hasBit lo hi k = false) : csB lo hi (k + 1) = csB lo hi k := by
 simp [csB, List.range_succ, h]
theorem csB_len (lo hi : Int) (k : Nat) : (csB lo hi k).length ≤ k := by
 have := List.length_filter_le (hasBit lo hi) (List.range k)
 simpa [csB] using this
theorem csB_lt (lo hi : Int) (k b : Nat) (h : b ∈ csB lo hi k) : b < k := by
 have := (List.mem_filter.1 h).1
 simpa using this
def csText (lo hi : Int) : ByteArray := ⟨((csB lo hi 128).map UInt8.ofNat).toArray⟩
theorem Tryd.info8 : (Tryd.prog.info? 5).map (fun i => (i.zero, i.size, i.bytes)) = some (some (.int .u8 0), 1, 1) := by kernel_rfl
theorem own_bel {wr w1 : World} {base : Nat} {e : TypeId} {size : Nat} {v : Value} {n : Nat} {xs : List Value} (h : wr.ownsRow base e size v n xs) (hb : Bel wr w1) : w1.ownsRow base e size v n xs := by
 refine ⟨h.1, h.2.elim Or.inl (fun ⟨g, cap, cur, hv, hg, hh, r⟩ => Or.inr ⟨g, cap, cur, hv, hg, ?_, r⟩)⟩
 have hlt : g < wr.heap.size := by
  rcases Nat.lt_or_ge g wr.heap.size with h' | h'
  ·
   exact h'
  ·
   rw [Array.getElem?_eq_none h'] at hh; cases hh
 rw [Below.block hb g hlt]; exact hh
theorem own_text (lo hi : Int) (wr : World) (base : Nat) (v : Value) (h : wr.ownsRow base 5 1 v (csB lo hi 128).length ((csB lo hi 128).map fun b : Nat => Value.int .u8 (b : Int))) :
  (convert 22 9 v).run Tryd.prog wr = .ok (.string (csText lo hi)) wr := by
 have h' := h
 rcases h.2 with ⟨rfl, h0⟩ | ⟨g, cap, cur, rfl, hg⟩
 ·
  have e : csB lo hi 128 = [] := by simpa using h0
  rw [Lib.run_convert_nil_bytes wr 22 9 5 0 Tryd.underlying22 Tryd.underlying5 Tryd.underlying9]
  unfold csText
  rw [e]; rfl
 ·
  unfold csText
  have hB := run_convert_bytes_back (P := Tryd.prog) wr 22 9 5 ⟨g, 0, none⟩ cap ((csB lo hi 128).map UInt8.ofNat) Tryd.underlying22 Tryd.underlying5 Tryd.underlying9 (fun j hj => by
   have hj2 : j < (csB lo hi 128).length := by simpa using hj
   rw [h'.cells rfl j (.int .u8 ((csB lo hi 128)[j] : Int)) (by simp [hj2])]
   have := csB_lt lo hi 128 _ (List.getElem_mem hj2)
   rw [List.getElem_map, UInt8.toNat_ofNat']
   congr 2
   omega)
  rw [List.length_map] at hB
  exact hB
end Go.Proofs.YtdacpljinffnaaaDoor
namespace Go.Proofs.YtdacpljinffnaaaDoor
set_option linter.unusedVariables false
set_option linter.unusedSimpArgs false
set_option maxRecDepth 100000
open Go.RowKit
set_option maxHeartbeats 2000000 in
theorem specCsetText_any (lo hi : Int) (w : World) :
  Calls Tryd.prog 56 #[.agg #[.int .i64 lo, .int .i64 hi]] w fun e w' => e = .returned (.string (csText lo hi)) ∧ Bel w w' := by
 obtain ⟨i0, hi0, iz0, iz1, iz2⟩ := info_parts Tryd.info8
 go_enter Tryd.func56, Tryd.ntmps56
 go_wp2_with (fail)
 go_loopw [3, 4] (fun v i wr => ∃ k : Nat, i = .int .i64 k ∧ k ≤ 128 ∧ wr.ownsRow (w.heap.size + 1) 5 1 v (csB lo hi k).length ((csB lo hi k).map fun b : Nat => Value.int .u8 (b : Int)) ∧ wr.cell? ⟨w.heap.size, 0, none⟩ = some (.int .i64 lo) ∧ wr.cell? ⟨w.heap.size, 1, none⟩ = some (.int .i64 hi) ∧ Bel w wr ∧ w.heap.size < wr.heap.size) (fun _ i _ => 128 - (intOf i).toNat)
 case atStart =>
  have ho := World.ownsRow_made (base := w.heap.size + 1) (e := 5) (size := 1) (w.alloc (.cells #[.int .i64 lo, .int .i64 hi] 77)) #[] 0 (by simp) (by decide) rfl
  rw [World.size_alloc] at ho
  exact ⟨0, rfl, by omega, ho, by simp, by simp, bl, by simp; omega⟩
 case round =>
  obtain ⟨k, rfl, hk, hown, hc0, hc1, hbw, hlt⟩ := hrel
  by_cases h : k < 128
  ·
   have hd : decide ((k : Int) < 128) = true := by simp; omega
   have hw8 : IntKind.u8.wrap (k : Int) = k := by rw [IntKind.wrap_u8]; omega
   cases hb : hasBit lo hi k
   ·
    have HB := hide hb
    clear hb
    go_wp2_with ((go_at_call 67; refine (specHasByte_any lo hi k _ (by omega)).mono ?_; rintro e w1 ⟨rfl, hb1⟩; have hz1 := hb1.sz; obtain ⟨hk1_0, hf1_0, hl1_0, hn1_0⟩ := hb1.lay (w.heap.size); (try simp only [VVal.val])); rw [HB.out])
    have hown1 := own_bel hown hb1
    rw [← csB_miss HB.out] at hown1
    exact ⟨⟨k + 1, rfl, by omega, hown1, (by rw [hk1_0]; exact hc0), (by rw [hk1_0]; exact hc1), hbw.trans hb1, hl1_0⟩, by simp only [intOf]; omega⟩
   ·
    have HB := hide hb
    clear hb
    go_wp2_with (first
     | ((go_at_call 67; refine (specHasByte_any lo hi k _ (by omega)).mono ?_; rintro e w1 ⟨rfl, hb1⟩; have hz1 := hb1.sz; obtain ⟨hk1_0, hf1_0, hl1_0, hn1_0⟩ := hb1.lay (w.heap.size); (try simp only [VVal.val])); rw [HB.out]; have hown1 := own_bel hown hb1)
     | (at_builtin; go_loud (refine wpList_append_own _ rfl _ _ 22 rfl (w.heap.size + 1) 5 i0 (.int .u8 0) 1 1 Tryd.underlying22 hi0 iz0 iz1 iz2 rfl (by decide) _ _ _ rfl (hown1.alloc _) ⟨w1.heap.size, 0, none⟩ 1 1 [.int .u8 k] rfl rfl ?c1 ?c2 ?c3 ?c4 ?c5 ?_)))
    case c1 =>
     intro j u hj
     match j, hj with
     | 0, hj => simp at hj; subst hj; simp [Addr.add]
    case c2 => intro u hu; simp at hu; subst hu; rfl
    case c3 => have := csB_len lo hi k; unfold maxLen; omega
    case c4 => have := csB_len lo hi k; omega
    case c5 => simp; omega
    intro v' w2 hown2 hgrow _
    have hbw2 : Bel w w2 := Below.grown (Bel.alloc (hbw.trans hb1) _) hgrow (by simp; omega) (fun q hq => by have := (hown1.lt q hq).1; omega)
    have hsz2 : w1.heap.size < w2.heap.size := by have := hgrow.size; simp at this; omega
    have hne : some w.heap.size ≠ u3.ownBlock := fun hq => by have := (hown1.lt _ hq.symm).1; omega
    have hd0 : w2.cell? ⟨w.heap.size, 0, none⟩ = some (.int .i64 lo) := World.grownBy.cell hgrow (((Bel.alloc (Bel.refl w1) _).box w.heap.size hl1_0 0).trans ((hk1_0 0).trans hc0)) hne
    have hd1 : w2.cell? ⟨w.heap.size, 1, none⟩ = some (.int .i64 hi) := World.grownBy.cell hgrow (((Bel.alloc (Bel.refl w1) _).box w.heap.size hl1_0 1).trans ((hk1_0 1).trans hc1)) hne
    have hown3 : w2.ownsRow (w.heap.size + 1) 5 1 v' (csB lo hi (k + 1)).length ((csB lo hi (k + 1)).map fun b : Nat => Value.int .u8 (b : Int)) := by
     rw [csB_hit HB.out, List.length_append, List.map_append]; exact hown2
    clear hgrow hown2 hown1 hown hne
    go_wp2_with (fail)
    exact ⟨⟨k + 1, rfl, by omega, hown3, hd0, hd1, hbw2, by omega⟩, by simp only [intOf]; omega⟩
  ·
   obtain rfl : k = 128 := by omega
   have hT := own_text lo hi wr _ _ hown
   go_wp2_with (fail)
   all_goals
    go_returns
    exact ⟨rfl, bl⟩
end Go.Proofs.YtdacpljinffnaaaDoor
