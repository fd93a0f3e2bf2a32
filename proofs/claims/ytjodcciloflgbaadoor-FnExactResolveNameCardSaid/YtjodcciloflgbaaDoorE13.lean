/- NewCset, both sides: a byte more in a set; a set of a text. -/
import Derived.Test.YtjodcciloflgbaaDoorQ
import Derived.Test.YtjodcciloflgbaaDoorBits
namespace Go.Proofs.YtjodcciloflgbaaDoor
set_option linter.unusedVariables false
set_option linter.unusedSimpArgs false
set_option maxRecDepth 100000
open Go.RowKit

/-- One bit more in a word of 64. -/
def orB (x : Int) (b : Nat) : Int := IntKind.i64.wrap ((BitVec.ofInt 64 x ||| BitVec.twoPow 64 b).toNat : Int)
theorem or_int (x : Int) (b : Nat) (h : b < 64) : bits .or .i64 x (wrap64 (2 ^ b)) = orB x b := by
  show IntKind.i64.wrap ((BitVec.ofInt 64 x ||| BitVec.ofInt 64 (wrap64 (2 ^ b))).toNat : Int) = _
  rw [ofInt_wrap_pow b h]; rfl
theorem ofInt_pow (b : Nat) (h : b < 64) : BitVec.ofInt 64 (2 ^ b) = BitVec.twoPow 64 b := by
  apply BitVec.eq_of_toNat_eq
  rw [BitVec.toNat_ofInt, BitVec.toNat_twoPow]
  obtain ⟨h1, h2⟩ := two_pow_le b h
  have e : ((2 : Int) ^ b) = ((2 ^ b : Nat) : Int) := by simp
  rw [e]
  generalize 2 ^ b = p at *
  omega
theorem ofInt_u64wrap (x : Int) : BitVec.ofInt 64 (IntKind.u64.wrap x) = BitVec.ofInt 64 x := by
  apply BitVec.eq_of_toNat_eq
  rw [BitVec.toNat_ofInt, BitVec.toNat_ofInt, Go.IntKind.wrap_u64]
  omega
theorem or_uint (x : Int) (b : Nat) (h : b < 64) : wrap64 (bits .or .u64 (IntKind.u64.wrap x) (IntKind.u64.wrap (2 ^ b))) = orB x b := by
  show wrap64 (IntKind.u64.wrap ((BitVec.ofInt 64 (IntKind.u64.wrap x) ||| BitVec.ofInt 64 (IntKind.u64.wrap (2 ^ b))).toNat : Int)) = _
  rw [ofInt_u64wrap, ofInt_u64wrap, ofInt_pow b h]
  unfold orB
  rw [IntKind.wrap_i64]
  unfold wrap64
  have := (BitVec.ofInt 64 x ||| BitVec.twoPow 64 b).isLt
  generalize (BitVec.ofInt 64 x ||| BitVec.twoPow 64 b).toNat = m at *
  rw [Go.IntKind.wrap_u64, show ((m : Int) % 18446744073709551616) = m by omega]
theorem orB_in (x : Int) (b : Nat) : InI (orB x b) := by
  unfold orB InI
  rw [IntKind.wrap_i64]
  omega
def addLo (lo : Int) (b : Nat) : Int := if b < 64 then orB lo b else lo
def addHi (hi : Int) (b : Nat) : Int := if b < 64 then hi else orB hi (b - 64)

/-- The set of a text from a place on. -/
def nsF (s : ByteArray) : Nat → Nat → Int → Int → Option (Int × Int)
  | 0, _, lo, hi => some (lo, hi)
  | f + 1, i, lo, hi => if byteAt s i ≤ 127 then nsF s f (i + 1) (addLo lo (byteAt s i)) (addHi hi (byteAt s i)) else none
def ns (s : ByteArray) (i : Nat) (lo hi : Int) : Option (Int × Int) := nsF s (s.size - i) i lo hi
theorem ns_end {s : ByteArray} {i : Nat} {lo hi : Int} (h : ¬ i < s.size) : ns s i lo hi = some (lo, hi) := by
  unfold ns
  rw [show s.size - i = 0 by omega, nsF]
theorem ns_bad {s : ByteArray} {i : Nat} {lo hi : Int} (h : i < s.size) (hb : ¬ byteAt s i ≤ 127) : ns s i lo hi = none := by
  unfold ns
  rw [show s.size - i = (s.size - (i + 1)) + 1 by omega, nsF, if_neg hb]
theorem ns_yes {s : ByteArray} {i : Nat} {lo hi : Int} (h : i < s.size) (hb : byteAt s i ≤ 127) : ns s (i + 1) (addLo lo (byteAt s i)) (addHi hi (byteAt s i)) = ns s i lo hi := by
  unfold ns
  rw [show s.size - i = (s.size - (i + 1)) + 1 by omega, nsF, if_pos hb]
def nsLo (s : ByteArray) : Int := ((ns s 0 0 0).getD (0, 0)).1
def nsHi (s : ByteArray) : Int := ((ns s 0 0 0).getD (0, 0)).2
def nsOk (s : ByteArray) : Bool := (ns s 0 0 0).isSome

set_option maxHeartbeats 400000 in
theorem specAdd_any (lo hi : Int) (b : Nat) (w : World) (hb : b ≤ 127) :
    Calls Tryd.prog 98 #[.agg #[.int .i64 lo, .int .i64 hi], .int .u8 b] w fun e w' => e = .returned (.agg #[.int .i64 (addLo lo b), .int .i64 (addHi hi b)]) ∧ Bel w w' := by
  have B1 := hide (or_int lo b)
  have B2 := hide (or_int hi (b - 64))
  go_enter Tryd.func98, Tryd.ntmps98
  go_wp2
  all_goals
    go_returns
    try go_light
    refine ⟨?_, bl⟩
    have B1 := B1.out
    have B2 := B2.out
    (try simp only [Array.getD_eq_getD_getElem?, List.getElem?_toArray, List.getElem?_cons_succ, List.getElem?_cons_zero, Option.getD_some])
    unfold addLo addHi
    grind
/-- Two cells of a box of the call's own. -/
def Box2 (w : World) (b : Nat) (x y : Int) : Prop := w.cell? ⟨b, 0, none⟩ = some (.int .i64 x) ∧ w.cell? ⟨b, 1, none⟩ = some (.int .i64 y) ∧ w.frozen? ⟨b, 0, none⟩ = false ∧ w.frozen? ⟨b, 1, none⟩ = false ∧ b < w.heap.size
theorem Box2.on {w w' : World} {b : Nat} {x y : Int} (h : Box2 w b x y) (hb : Bel w w') : Box2 w' b x y :=
  ⟨(hb.box b h.2.2.2.2 0).trans h.1, (hb.box b h.2.2.2.2 1).trans h.2.1, (hb.boxf b h.2.2.2.2 0).trans h.2.2.1, (hb.boxf b h.2.2.2.2 1).trans h.2.2.2.1, Nat.lt_of_lt_of_le h.2.2.2.2 hb.size⟩
theorem Box2.put {w : World} {b : Nat} {x y : Int} (h : Box2 w b x y) (x' y' : Int) : Box2 ((w.setCell ⟨b, 0, none⟩ (.int .i64 x')).setCell ⟨b, 1, none⟩ (.int .i64 y')) b x' y' := by
  obtain ⟨h0, h1, h2, h3, h4⟩ := h
  have n1 : (⟨b, 0, none⟩ : Addr) ≠ ⟨b, 1, none⟩ := by simp
  refine ⟨?_, ?_, by simpa using h2, by simpa using h3, by simpa using h4⟩
  · rw [World.cell?_setCell_other (h := n1.symm), World.cell?_setCell_same (h := h0)]
  · rw [World.cell?_setCell_same (u := .int .i64 y) (h := ?_)]
    rw [World.cell?_setCell_other (h := n1)]; exact h1
theorem Box2.apart {w : World} {b b' : Nat} {x y : Int} (h : Box2 w b x y) (hn : b' ≠ b) (u v : Value) : Box2 ((w.setCell ⟨b', 0, none⟩ u).setCell ⟨b', 1, none⟩ v) b x y := by
  obtain ⟨h0, h1, h2, h3, h4⟩ := h
  refine ⟨?_, ?_, by simpa using h2, by simpa using h3, by simpa using h4⟩
  · rw [World.cell?_setCell_far _ _ _ _ hn, World.cell?_setCell_far _ _ _ _ hn]; exact h0
  · rw [World.cell?_setCell_far _ _ _ _ hn, World.cell?_setCell_far _ _ _ _ hn]; exact h1

set_option maxHeartbeats 1000000 in
theorem specNewCset_any (s : ByteArray) (w : World) (hs : s.size ≤ maxLen) :
    Calls Tryd.prog 91 #[.string s] w fun e w' => e = .returned (.tuple #[.agg #[.int .i64 (nsLo s), .int .i64 (nsHi s)], .bool (nsOk s)]) ∧ Bel w w' := by
  unfold maxLen at hs
  go_enter Tryd.func91, Tryd.ntmps91
  go_wp2_with (fail)
  go_loopw [5] (fun i wr => ∃ (k : Nat) (lo hi : Int), i = .int .i64 k ∧ k ≤ s.size ∧ Hid (ns s k lo hi = ns s 0 0 0) ∧ Box2 wr w.heap.size 0 0 ∧ Box2 wr (w.heap.size + 1) lo hi ∧ Bel w wr) (fun i _ => s.size - (intOf i).toNat)
  case atStart => exact ⟨0, 0, 0, rfl, by omega, rfl, ⟨by simp, by simp, by simp, by simp, by simp; omega⟩, ⟨by simp, by simp, by simp, by simp, by simp⟩, bl⟩
  case round =>
    obtain ⟨k, lo, hi, rfl, hk, hN, R, C, hbw⟩ := hrel
    have R' := R
    have C' := C
    obtain ⟨r0, r1, r2, r3, r4⟩ := R'
    obtain ⟨c0, c1, c2, c3, c4⟩ := C'
    by_cases h1 : k < s.size
    · have hd : decide ((k : Int) < (s.size : Int)) = true := by simp; omega
      have hB := hide (byteAt_eq s k h1)
      by_cases h2 : byteAt s k ≤ 127
      · have h3 : s[k].toNat ≤ 127 := by rw [hB.out]; exact h2
        have hE := hide (ns_yes (lo := lo) (hi := hi) h1 h2)
        have hbd : Bel wr wr.drew := bl
        have R1 := R.on hbd
        have C1 := C.on hbd
        go_wp2_with (fail)
        (refine wp_region_still_tail 4 (by kernel_rfl) (by kernel_rfl) ?_; simp only [List.take_succ_cons, List.take_zero, List.drop_succ_cons, List.drop_zero]; change wpStill _ _ (World.drew (wr)) _ _ _)
        repeat still_step
        refine wpStill_nil ?_
        clear r0 r1 r2 r3 r4 c0 c1 c2 c3 c4
        go_wp2_with (go_at_call 98; rw [hB.out]; refine (specAdd_any lo hi _ _ h2).mono ?_; rintro e w3 ⟨rfl, hb3⟩; have R3 := R1.on hb3; have C3 := C1.on hb3; obtain ⟨c0, c1, c2, c3, c4⟩ := C3)
        have R4 := R3.apart (b' := w.heap.size + 1) (by omega) (.int .i64 (addLo lo (byteAt s k))) (.int .i64 (addHi hi (byteAt s k)))
        have C4 := Box2.put (⟨c0, c1, c2, c3, c4⟩ : Box2 w3 (w.heap.size + 1) lo hi) (addLo lo (byteAt s k)) (addHi hi (byteAt s k))
        exact ⟨⟨k + 1, _, _, rfl, h1, hide (hE.out.trans hN.out), R4, C4, bl⟩, by simp only [intOf]; omega⟩
      · have h3 : 127 < s[k].toNat := by rw [hB.out]; omega
        have hE := hide (ns_bad (lo := lo) (hi := hi) h1 h2)
        have e1 := hide (show ns s 0 0 0 = none from hN.out.symm.trans hE.out)
        go_wp2_with (fail)
        have D := R.put 0 0
        obtain ⟨d0, d1, d2, d3, d4⟩ := D
        rw [show nsLo s = 0 by unfold nsLo; rw [e1.out]; rfl, show nsHi s = 0 by unfold nsHi; rw [e1.out]; rfl, show nsOk s = false by unfold nsOk; rw [e1.out]; rfl]
        exact bodyPost_ret (by simp [results, Tryd.results91, d0, d1, go_sem]; try rfl) rfl ⟨rfl, bl⟩
    · have hE := hide (ns_end (lo := lo) (hi := hi) h1)
      have hd : decide ((k : Int) < (s.size : Int)) = false := by simp; omega
      have e1 := hide (show ns s 0 0 0 = some (lo, hi) from hN.out.symm.trans hE.out)
      go_wp2_with (fail)
      have D := R.put lo hi
      obtain ⟨d0, d1, d2, d3, d4⟩ := D
      rw [show nsLo s = lo by unfold nsLo; rw [e1.out]; rfl, show nsHi s = hi by unfold nsHi; rw [e1.out]; rfl, show nsOk s = true by unfold nsOk; rw [e1.out]; rfl]
      exact bodyPost_ret (by simp [results, Tryd.results91, d0, d1, go_sem]; try rfl) rfl ⟨rfl, bl⟩
end Go.Proofs.YtjodcciloflgbaaDoor
