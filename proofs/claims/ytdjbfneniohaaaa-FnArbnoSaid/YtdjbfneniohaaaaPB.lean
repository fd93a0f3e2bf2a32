/- The base of all texts of this seat: closed facts, values of the language (six cells) and character sets (two cells) as arguments, small lemmas. -/
import Derived.Test.YtdjbfneniohaaaaProg
import Derived.WalkKit
import Derived.WalkSpells
import Derived.WalkLawsBesides
import Derived.ProofKit
import Derived.OpenShut
import Derived.ShutString
import Derived.ChangeOld
import Derived.Below
import Derived.Lib.Hide
import Derived.Handy
import Derived.Deep.Light
import Derived.Deep.QuietTactic
import Derived.BigQuiet
import Derived.Deep.RegionHeld3
import Derived.StillTailTactics
import Derived.Laws.BitsAllLaws
namespace Go.Proofs.Ytdjbfneniohaaaa
set_option linter.unusedVariables false
set_option linter.unusedSimpArgs false
set_option maxRecDepth 100000
open Go.ChangeShapes Go.WideShapes Go.ChangeAt Go.RowKit
open Go.ChangeMaps (open_string shut_string)
theorem own : ownKnob Try.prog.godebug = none := by kernel_rfl
theorem laidOut : laidOutB Try.prog = true := by kernel_rfl
def InI (n : Int) : Prop := -9223372036854775808 ≤ n ∧ n ≤ 9223372036854775807
theorem hide {p : Prop} (h : p) : Hid p := h
def Bel (w w' : World) : Prop := Below w.heap.size w w'
namespace Bel
theorem refl (w : World) : Bel w w := Below.refl _ _
theorem size {w w' : World} (h : Bel w w') : w.heap.size ≤ w'.heap.size := Below.size h
theorem trans {a b c : World} (h : Bel a b) (k : Bel b c) : Bel a c := Below.trans h (Below.mono k h.size)
theorem alloc {a b : World} (h : Bel a b) (o : Obj) : Bel a (b.alloc o) := Below.alloc h h.size o
theorem drew {a b : World} (h : Bel a b) : Bel a b.drew := Below.drew h
theorem drewN {a b : World} (h : Bel a b) (n : Nat) : Bel a (b.drewN n) := ⟨h.os, h.tape, h.output, h.size, h.block⟩
theorem set {a b : World} (h : Bel a b) {p : Addr} (hp : a.heap.size ≤ p.block) (v : Value) : Bel a (b.setCell p v) := Below.setCell h hp v
theorem facts {W w1 : World} (hb : Bel W w1) : (∀ b o, b < W.heap.size → w1.cell? ⟨b, o, none⟩ = W.cell? ⟨b, o, none⟩) ∧ (∀ b o, b < W.heap.size → w1.frozen? ⟨b, o, none⟩ = W.frozen? ⟨b, o, none⟩) ∧ W.heap.size ≤ w1.heap.size :=
 ⟨fun b o h => Below.cell (p := ⟨b, o, none⟩) hb h, fun b o h => Below.frozen (p := ⟨b, o, none⟩) hb h, hb.size⟩
theorem box {W w1 : World} (hb : Bel W w1) (b : Nat) (h : b < W.heap.size) : ∀ o, w1.cell? ⟨b, o, none⟩ = W.cell? ⟨b, o, none⟩ := fun o => hb.facts.1 b o h
theorem boxf {W w1 : World} (hb : Bel W w1) (b : Nat) (h : b < W.heap.size) : ∀ o, w1.frozen? ⟨b, o, none⟩ = W.frozen? ⟨b, o, none⟩ := fun o => hb.facts.2.1 b o h
theorem lay {W w1 : World} (hb : Bel W w1) (b : Nat) (h : b < W.heap.size := by first | (simp; done) | (simp; omega) | omega) :
  (∀ o, w1.cell? ⟨b, o, none⟩ = W.cell? ⟨b, o, none⟩) ∧ (∀ o, w1.frozen? ⟨b, o, none⟩ = W.frozen? ⟨b, o, none⟩) ∧ b < w1.heap.size ∧ ¬ b = w1.heap.size :=
 ⟨hb.box b h, hb.boxf b h, Nat.lt_of_lt_of_le h hb.size, fun e => Nat.lt_irrefl _ (e ▸ Nat.lt_of_lt_of_le h hb.size)⟩
theorem sz {W w1 : World} {n : Nat} (hb : Bel W w1) (h : W.heap.size = n := by first | (simp only [World.size_alloc, World.size_setCell, World.size_drew, World.heap_drewN]; exact rfl) | exact rfl) : n ≤ w1.heap.size := h ▸ hb.size
end Bel
theorem bl {w w' : World} (h : Bel w w' := by repeat' (first | with_reducible exact Bel.refl _ | with_reducible assumption | with_reducible refine Bel.set ?_ ?_ _ | with_reducible refine Bel.alloc ?_ _ | with_reducible refine Bel.drew ?_ | with_reducible refine Bel.drewN ?_ _ | with_reducible refine Bel.trans ?_ (by with_reducible assumption) | (simp; done) | (simp; omega) | refine Bel.alloc ?_ _ | refine Bel.drew ?_ | refine Bel.drewN ?_ _ | refine Bel.set ?_ ?_ _)) : Bel w w' := h
theorem ba_eq (s t : ByteArray) : s.toList = t.toList ↔ s = t := by
 constructor
 ·
  intro h
  have e : ∀ x : ByteArray, x.toList = x.data.toList := fun x => ByteArray.toList_eq x
  rw [e, e] at h
  exact ByteArray.ext (Array.toList_inj.1 h)
 ·
  rintro rfl; rfl
structure VVal where
 k : Int
 n : Int
 i : Int
 t : ByteArray
 lo : Int
 hi : Int
structure VVal.Ok (v : VVal) : Prop where
 k : InI v.k
 n : InI v.n
 i : InI v.i
 t : v.t.size ≤ maxLen
 lo : InI v.lo
 hi : InI v.hi
section
variable {H : Type} {enc : TypeId × Value → H} {w : World} {base : Nat} {spare : Nat → Bool} {held : Bool}
end
end Go.Proofs.Ytdjbfneniohaaaa
namespace Go.Proofs.Ytdjbfneniohaaaa
set_option linter.unusedVariables false
set_option linter.unusedSimpArgs false
set_option maxRecDepth 100000
open Go.RowKit
def byteAt (s : ByteArray) (i : Nat) : Nat := (s.data.toList.getD i 0).toNat
theorem byteAt_lt (s : ByteArray) (i : Nat) : byteAt s i < 256 := UInt8.toNat_lt _
theorem byteAt_eq (s : ByteArray) (i : Nat) (h : i < s.size) : (s[i]'h).toNat = byteAt s i := by
 unfold byteAt
 have h2 : i < s.data.toList.length := by simpa using h
 rw [List.getD_eq_getElem?_getD, List.getElem?_eq_getElem h2]
 rfl
@[go_sem] theorem cell_set_same (w : World) (a : Addr) (v : Value) (h : (w.cell? a).isSome = true) : (w.setCell a v).cell? a = some v := by
 obtain ⟨u, hu⟩ := Option.isSome_iff_exists.1 h
 exact World.cell?_setCell_same w a v hu
end Go.Proofs.Ytdjbfneniohaaaa
namespace Go.Proofs.Ytdjbfneniohaaaa
set_option linter.unusedVariables false
set_option linter.unusedSimpArgs false
set_option maxRecDepth 100000
open Go.RowKit
def bitI (x : Int) (b : Nat) : Bool := (BitVec.ofInt 64 x).getLsbD b
theorem two_pow_le (b : Nat) (h : b < 64) : 1 ≤ 2 ^ b ∧ 2 ^ b ≤ 9223372036854775808 := by
 refine ⟨Nat.one_le_two_pow, ?_⟩
 calc 2 ^ b ≤ 2 ^ 63 := Nat.pow_le_pow_right (by omega) (by omega)
  _ = 9223372036854775808 := by decide
theorem ofInt_wrap_pow (b : Nat) (h : b < 64) : BitVec.ofInt 64 (wrap64 (2 ^ b)) = BitVec.twoPow 64 b := by
 apply BitVec.eq_of_toNat_eq
 rw [BitVec.toNat_ofInt, BitVec.toNat_twoPow]
 obtain ⟨h1, h2⟩ := two_pow_le b h
 have e : ((2 : Int) ^ b) = ((2 ^ b : Nat) : Int) := by simp
 rw [e]
 generalize 2 ^ b = p at *
 unfold wrap64
 omega
theorem bit_and (x : Int) (b : Nat) (h : b < 64) : (bits .and .i64 x (wrap64 (2 ^ b)) != 0) = bitI x b := by
 show (IntKind.i64.wrap ((BitVec.ofInt 64 x &&& BitVec.ofInt 64 (wrap64 (2 ^ b))).toNat : Int) != 0) = bitI x b
 rw [ofInt_wrap_pow b h, BitVec.and_twoPow, IntKind.wrap_i64]
 unfold bitI
 obtain ⟨h1, h2⟩ := two_pow_le b h
 cases hb : (BitVec.ofInt 64 x).getLsbD b
 ·
  simp
 ·
  simp only [↓reduceIte, BitVec.toNat_twoPow]
  have e : 2 ^ b % 2 ^ 64 = 2 ^ b := Nat.mod_eq_of_lt (by
   calc 2 ^ b ≤ 9223372036854775808 := h2
    _ < 2 ^ 64 := by decide)
  rw [e]
  generalize 2 ^ b = p at *
  rw [bne_iff_ne]
  omega
theorem bit_shift (x : Int) (b : Nat) (h : b < 64) : (bits .and .u64 (IntKind.u64.wrap x / 2 ^ b) 1 == 1) = bitI x b := by
 have e0 : IntKind.u64.wrap x = ((BitVec.ofInt 64 x).toNat : Int) := by
  rw [Go.IntKind.wrap_u64, BitVec.toNat_ofInt]
  omega
 have hlt := (BitVec.ofInt 64 x).isLt
 have e : ((2 : Int) ^ b) = ((2 ^ b : Nat) : Int) := by simp
 rw [e0, e, ← Int.natCast_ediv]
 unfold bitI
 rw [BitVec.getLsbD]
 generalize (BitVec.ofInt 64 x).toNat = n at *
 have h3 : n / 2 ^ b ≤ n := Nat.div_le_self _ _
 have := u64_and_nat (n / 2 ^ b) 1 (by omega) (by omega)
 rw [show ((1 : Nat) : Int) = 1 from rfl] at this
 rw [this, Nat.and_one_is_mod, Nat.testBit_eq_decide_div_mod_eq]
 generalize n / 2 ^ b % 2 = m
 by_cases hm : m = 1
 ·
  subst hm; rfl
 ·
  have h1 : ((m : Int) == 1) = false := by simp; omega
  rw [h1]
  simp [hm]
def hasBit (lo hi : Int) (b : Nat) : Bool := if b < 64 then bitI lo b else if b < 128 then bitI hi (b - 64) else false
end Go.Proofs.Ytdjbfneniohaaaa
namespace Go.Proofs.Ytdjbfneniohaaaa
set_option linter.unusedVariables false
set_option linter.unusedSimpArgs false
set_option maxRecDepth 100000
open Go.RowKit
def orB (x : Int) (b : Nat) : Int := IntKind.i64.wrap ((BitVec.ofInt 64 x ||| BitVec.twoPow 64 b).toNat : Int)
theorem or_int (x : Int) (b : Nat) (h : b < 64) : bits .or .i64 x (wrap64 (2 ^ b)) = orB x b := by
 show IntKind.i64.wrap ((BitVec.ofInt 64 x ||| BitVec.ofInt 64 (wrap64 (2 ^ b))).toNat : Int) = _
 rw [ofInt_wrap_pow b h]; rfl
theorem ofInt_pow (b : Nat) (h : b < 64) : BitVec.ofInt 64 (2 ^ b) = BitVec.twoPow 64 b := by
 apply BitVec.eq_of_toNat_eq
 rw [BitVec.toNat_ofInt, BitVec.toNat_twoPow]
 obtain ⟨h1, h2⟩ := two_pow_le b h
 have e : ((2 : Int) ^ b) = ((2 ^ b : Nat) : Int) := by simp
 rw [e]
 generalize 2 ^ b = p at *
 omega
theorem ofInt_u64wrap (x : Int) : BitVec.ofInt 64 (IntKind.u64.wrap x) = BitVec.ofInt 64 x := by
 apply BitVec.eq_of_toNat_eq
 rw [BitVec.toNat_ofInt, BitVec.toNat_ofInt, Go.IntKind.wrap_u64]
 omega
theorem or_uint (x : Int) (b : Nat) (h : b < 64) : wrap64 (bits .or .u64 (IntKind.u64.wrap x) (IntKind.u64.wrap (2 ^ b))) = orB x b := by
 show wrap64 (IntKind.u64.wrap ((BitVec.ofInt 64 (IntKind.u64.wrap x) ||| BitVec.ofInt 64 (IntKind.u64.wrap (2 ^ b))).toNat : Int)) = _
 rw [ofInt_u64wrap, ofInt_u64wrap, ofInt_pow b h]
 unfold orB
 rw [IntKind.wrap_i64]
 unfold wrap64
 have := (BitVec.ofInt 64 x ||| BitVec.twoPow 64 b).isLt
 generalize (BitVec.ofInt 64 x ||| BitVec.twoPow 64 b).toNat = m at *
 rw [Go.IntKind.wrap_u64, show ((m : Int) % 18446744073709551616) = m by omega]
theorem orB_in (x : Int) (b : Nat) : InI (orB x b) := by
 unfold orB InI
 rw [IntKind.wrap_i64]
 omega
def addLo (lo : Int) (b : Nat) : Int := if b < 64 then orB lo b else lo
def addHi (hi : Int) (b : Nat) : Int := if b < 64 then hi else orB hi (b - 64)
def nsF (s : ByteArray) : Nat → Nat → Int → Int → Option (Int × Int)
 | 0, _, lo, hi => some (lo, hi)
 | f + 1, i, lo, hi => if byteAt s i ≤ 127 then nsF s f (i + 1) (addLo lo (byteAt s i)) (addHi hi (byteAt s i)) else none
def ns (s : ByteArray) (i : Nat) (lo hi : Int) : Option (Int × Int) := nsF s (s.size - i) i lo hi
theorem ns_end {s : ByteArray} {i : Nat} {lo hi : Int} (h : ¬ i < s.size) : ns s i lo hi = some (lo, hi) := by
 unfold ns
 rw [show s.size - i = 0 by omega, nsF]
theorem ns_bad {s : ByteArray} {i : Nat} {lo hi : Int} (h : i < s.size) (hb : ¬ byteAt s i ≤ 127) : ns s i lo hi = none := by
 unfold ns
 rw [show s.size - i = (s.size - (i + 1)) + 1 by omega, nsF, if_neg hb]
theorem ns_yes {s : ByteArray} {i : Nat} {lo hi : Int} (h : i < s.size) (hb : byteAt s i ≤ 127) : ns s (i + 1) (addLo lo (byteAt s i)) (addHi hi (byteAt s i)) = ns s i lo hi := by
 unfold ns
 rw [show s.size - i = (s.size - (i + 1)) + 1 by omega, nsF, if_pos hb]
def nsLo (s : ByteArray) : Int := ((ns s 0 0 0).getD (0, 0)).1
def nsHi (s : ByteArray) : Int := ((ns s 0 0 0).getD (0, 0)).2
def nsOk (s : ByteArray) : Bool := (ns s 0 0 0).isSome
set_option maxHeartbeats 400000 in
theorem specAdd_any (lo hi : Int) (b : Nat) (w : World) (hb : b ≤ 127) :
  Calls Try.prog 72 #[.agg #[.int .i64 lo, .int .i64 hi], .int .u8 b] w fun e w' => e = .returned (.agg #[.int .i64 (addLo lo b), .int .i64 (addHi hi b)]) ∧ Bel w w' := by
 have B1 := hide (or_int lo b)
 have B2 := hide (or_int hi (b - 64))
 go_enter Try.func72, Try.ntmps72
 go_wp2
 all_goals
  go_returns
  try go_light
  refine ⟨?_, bl⟩
  have B1 := B1.out
  have B2 := B2.out
  (try simp only [Array.getD_eq_getD_getElem?, List.getElem?_toArray, List.getElem?_cons_succ, List.getElem?_cons_zero, Option.getD_some])
  unfold addLo addHi
  grind
set_option maxHeartbeats 400000 in
theorem implWith_any (lo hi : Int) (b : Nat) (w : World) (hb : b ≤ 127) :
  Calls Try.prog 71 #[.agg #[.int .i64 lo, .int .i64 hi], .int .u8 b] w fun e w' => e = .returned (.agg #[.int .i64 (addLo lo b), .int .i64 (addHi hi b)]) ∧ Bel w w' := by
 have B1 := hide (or_uint lo b)
 have B2 := hide (or_uint hi (b - 64))
 go_enter Try.func71, Try.ntmps71
 go_wp2
 all_goals
  go_returns
  try go_light
  refine ⟨?_, bl⟩
  have B1 := B1.out
  have B2 := B2.out
  (try simp only [Array.getD_eq_getD_getElem?, List.getElem?_toArray, List.getElem?_cons_succ, List.getElem?_cons_zero, Option.getD_some])
  unfold addLo addHi
  grind
def Box2 (w : World) (b : Nat) (x y : Int) : Prop := w.cell? ⟨b, 0, none⟩ = some (.int .i64 x) ∧ w.cell? ⟨b, 1, none⟩ = some (.int .i64 y) ∧ w.frozen? ⟨b, 0, none⟩ = false ∧ w.frozen? ⟨b, 1, none⟩ = false ∧ b < w.heap.size
theorem Box2.on {w w' : World} {b : Nat} {x y : Int} (h : Box2 w b x y) (hb : Bel w w') : Box2 w' b x y :=
 ⟨(hb.box b h.2.2.2.2 0).trans h.1, (hb.box b h.2.2.2.2 1).trans h.2.1, (hb.boxf b h.2.2.2.2 0).trans h.2.2.1, (hb.boxf b h.2.2.2.2 1).trans h.2.2.2.1, Nat.lt_of_lt_of_le h.2.2.2.2 hb.size⟩
theorem Box2.put {w : World} {b : Nat} {x y : Int} (h : Box2 w b x y) (x' y' : Int) : Box2 ((w.setCell ⟨b, 0, none⟩ (.int .i64 x')).setCell ⟨b, 1, none⟩ (.int .i64 y')) b x' y' := by
 obtain ⟨h0, h1, h2, h3, h4⟩ := h
 have n1 : (⟨b, 0, none⟩ : Addr) ≠ ⟨b, 1, none⟩ := by simp
 refine ⟨?_, ?_, by simpa using h2, by simpa using h3, by simpa using h4⟩
 ·
  rw [World.cell?_setCell_other (h := n1.symm), World.cell?_setCell_same (h := h0)]
 ·
  rw [World.cell?_setCell_same (u := .int .i64 y) (h := ?_)]
  rw [World.cell?_setCell_other (h := n1)]; exact h1
theorem Box2.apart {w : World} {b b' : Nat} {x y : Int} (h : Box2 w b x y) (hn : b' ≠ b) (u v : Value) : Box2 ((w.setCell ⟨b', 0, none⟩ u).setCell ⟨b', 1, none⟩ v) b x y := by
 obtain ⟨h0, h1, h2, h3, h4⟩ := h
 refine ⟨?_, ?_, by simpa using h2, by simpa using h3, by simpa using h4⟩
 ·
  rw [World.cell?_setCell_far _ _ _ _ hn, World.cell?_setCell_far _ _ _ _ hn]; exact h0
 ·
  rw [World.cell?_setCell_far _ _ _ _ hn, World.cell?_setCell_far _ _ _ _ hn]; exact h1
set_option maxHeartbeats 1000000 in
theorem specNewCset_any (s : ByteArray) (w : World) (hs : s.size ≤ maxLen) :
  Calls Try.prog 62 #[.string s] w fun e w' => e = .returned (.tuple #[.agg #[.int .i64 (nsLo s), .int .i64 (nsHi s)], .bool (nsOk s)]) ∧ Bel w w' := by
 unfold maxLen at hs
 go_enter Try.func62, Try.ntmps62
 go_wp2_with (fail)
 go_loopw [5] (fun i wr => ∃ (k : Nat) (lo hi : Int), i = .int .i64 k ∧ k ≤ s.size ∧ Hid (ns s k lo hi = ns s 0 0 0) ∧ Box2 wr w.heap.size 0 0 ∧ Box2 wr (w.heap.size + 1) lo hi ∧ Bel w wr) (fun i _ => s.size - (intOf i).toNat)
 case atStart => exact ⟨0, 0, 0, rfl, by omega, rfl, ⟨by simp, by simp, by simp, by simp, by simp; omega⟩, ⟨by simp, by simp, by simp, by simp, by simp⟩, bl⟩
 case round =>
  obtain ⟨k, lo, hi, rfl, hk, hN, R, C, hbw⟩ := hrel
  have R' := R
  have C' := C
  obtain ⟨r0, r1, r2, r3, r4⟩ := R'
  obtain ⟨c0, c1, c2, c3, c4⟩ := C'
  by_cases h1 : k < s.size
  ·
   have hd : decide ((k : Int) < (s.size : Int)) = true := by simp; omega
   have hB := hide (byteAt_eq s k h1)
   by_cases h2 : byteAt s k ≤ 127
   ·
    have h3 : s[k].toNat ≤ 127 := by rw [hB.out]; exact h2
    have hE := hide (ns_yes (lo := lo) (hi := hi) h1 h2)
    have hbd : Bel wr wr.drew := bl
    have R1 := R.on hbd
    have C1 := C.on hbd
    go_wp2_with (fail)
    (refine wp_region_still_tail 4 (by kernel_rfl) (by kernel_rfl) ?_; simp only [List.take_succ_cons, List.take_zero, List.drop_succ_cons, List.drop_zero]; change wpStill _ _ (World.drew (wr)) _ _ _)
    repeat still_step
    refine wpStill_nil ?_
    clear r0 r1 r2 r3 r4 c0 c1 c2 c3 c4
    go_wp2_with (go_at_call 72; rw [hB.out]; refine (specAdd_any lo hi _ _ h2).mono ?_; rintro e w3 ⟨rfl, hb3⟩; have R3 := R1.on hb3; have C3 := C1.on hb3; obtain ⟨c0, c1, c2, c3, c4⟩ := C3)
    have R4 := R3.apart (b' := w.heap.size + 1) (by omega) (.int .i64 (addLo lo (byteAt s k))) (.int .i64 (addHi hi (byteAt s k)))
    have C4 := Box2.put (⟨c0, c1, c2, c3, c4⟩ : Box2 w3 (w.heap.size + 1) lo hi) (addLo lo (byteAt s k)) (addHi hi (byteAt s k))
    exact ⟨⟨k + 1, _, _, rfl, h1, hide (hE.out.trans hN.out), R4, C4, bl⟩, by simp only [intOf]; omega⟩
   ·
    have h3 : 127 < s[k].toNat := by rw [hB.out]; omega
    have hE := hide (ns_bad (lo := lo) (hi := hi) h1 h2)
    have e1 := hide (show ns s 0 0 0 = none from hN.out.symm.trans hE.out)
    go_wp2_with (fail)
    have D := R.put 0 0
    obtain ⟨d0, d1, d2, d3, d4⟩ := D
    rw [show nsLo s = 0 by unfold nsLo; rw [e1.out]; rfl, show nsHi s = 0 by unfold nsHi; rw [e1.out]; rfl, show nsOk s = false by unfold nsOk; rw [e1.out]; rfl]
    exact bodyPost_ret (by simp [results, Try.results62, d0, d1, go_sem]; try rfl) rfl ⟨rfl, bl⟩
  ·
   have hE := hide (ns_end (lo := lo) (hi := hi) h1)
   have hd : decide ((k : Int) < (s.size : Int)) = false := by simp; omega
   have e1 := hide (show ns s 0 0 0 = some (lo, hi) from hN.out.symm.trans hE.out)
   go_wp2_with (fail)
   have D := R.put lo hi
   obtain ⟨d0, d1, d2, d3, d4⟩ := D
   rw [show nsLo s = lo by unfold nsLo; rw [e1.out]; rfl, show nsHi s = hi by unfold nsHi; rw [e1.out]; rfl, show nsOk s = true by unfold nsOk; rw [e1.out]; rfl]
   exact bodyPost_ret (by simp [results, Try.results62, d0, d1, go_sem]; try rfl) rfl ⟨rfl, bl⟩
set_option maxHeartbeats 1000000 in
theorem implNewCset_any (s : ByteArray) (w : World) (hs : s.size ≤ maxLen) :
  Calls Try.prog 58 #[.string s] w fun e w' => e = .returned (.tuple #[.agg #[.int .i64 (nsLo s), .int .i64 (nsHi s)], .bool (nsOk s)]) ∧ Bel w w' := by
 unfold maxLen at hs
 go_enter Try.func58, Try.ntmps58
 go_wp2_with (fail)
 go_loopw [5] (fun i wr => ∃ (k : Nat) (lo hi : Int), i = .int .i64 k ∧ k ≤ s.size ∧ Hid (ns s k lo hi = ns s 0 0 0) ∧ Box2 wr w.heap.size 0 0 ∧ Box2 wr (w.heap.size + 1) lo hi ∧ Bel w wr) (fun i _ => s.size - (intOf i).toNat)
 case atStart => exact ⟨0, 0, 0, rfl, by omega, rfl, ⟨by simp, by simp, by simp, by simp, by simp; omega⟩, ⟨by simp, by simp, by simp, by simp, by simp⟩, bl⟩
 case round =>
  obtain ⟨k, lo, hi, rfl, hk, hN, R, C, hbw⟩ := hrel
  have R' := R
  have C' := C
  obtain ⟨r0, r1, r2, r3, r4⟩ := R'
  obtain ⟨c0, c1, c2, c3, c4⟩ := C'
  by_cases h1 : k < s.size
  ·
   have hd : decide ((k : Int) < (s.size : Int)) = true := by simp; omega
   have hB := hide (byteAt_eq s k h1)
   by_cases h2 : byteAt s k ≤ 127
   ·
    have h3 : s[k].toNat ≤ 127 := by rw [hB.out]; exact h2
    have hE := hide (ns_yes (lo := lo) (hi := hi) h1 h2)
    have hbd : Bel wr wr.drew := bl
    have R1 := R.on hbd
    have C1 := C.on hbd
    go_wp2_with (fail)
    (refine wp_region_still_tail 4 (by kernel_rfl) (by kernel_rfl) ?_; simp only [List.take_succ_cons, List.take_zero, List.drop_succ_cons, List.drop_zero]; change wpStill _ _ (World.drew (wr)) _ _ _)
    repeat still_step
    refine wpStill_nil ?_
    clear r0 r1 r2 r3 r4 c0 c1 c2 c3 c4
    go_wp2_with (go_at_call 71; rw [hB.out]; refine (implWith_any lo hi _ _ h2).mono ?_; rintro e w3 ⟨rfl, hb3⟩; have R3 := R1.on hb3; have C3 := C1.on hb3; obtain ⟨c0, c1, c2, c3, c4⟩ := C3)
    have R4 := R3.apart (b' := w.heap.size + 1) (by omega) (.int .i64 (addLo lo (byteAt s k))) (.int .i64 (addHi hi (byteAt s k)))
    have C4 := Box2.put (⟨c0, c1, c2, c3, c4⟩ : Box2 w3 (w.heap.size + 1) lo hi) (addLo lo (byteAt s k)) (addHi hi (byteAt s k))
    exact ⟨⟨k + 1, _, _, rfl, h1, hide (hE.out.trans hN.out), R4, C4, bl⟩, by simp only [intOf]; omega⟩
   ·
    have h3 : 127 < s[k].toNat := by rw [hB.out]; omega
    have hE := hide (ns_bad (lo := lo) (hi := hi) h1 h2)
    have e1 := hide (show ns s 0 0 0 = none from hN.out.symm.trans hE.out)
    go_wp2_with (fail)
    have D := R.put 0 0
    obtain ⟨d0, d1, d2, d3, d4⟩ := D
    rw [show nsLo s = 0 by unfold nsLo; rw [e1.out]; rfl, show nsHi s = 0 by unfold nsHi; rw [e1.out]; rfl, show nsOk s = false by unfold nsOk; rw [e1.out]; rfl]
    exact bodyPost_ret (by simp [results, Try.results58, d0, d1, go_sem]; try rfl) rfl ⟨rfl, bl⟩
  ·
   have hE := hide (ns_end (lo := lo) (hi := hi) h1)
   have hd : decide ((k : Int) < (s.size : Int)) = false := by simp; omega
   have e1 := hide (show ns s 0 0 0 = some (lo, hi) from hN.out.symm.trans hE.out)
   go_wp2_with (fail)
   have D := R.put lo hi
   obtain ⟨d0, d1, d2, d3, d4⟩ := D
   rw [show nsLo s = lo by unfold nsLo; rw [e1.out]; rfl, show nsHi s = hi by unfold nsHi; rw [e1.out]; rfl, show nsOk s = true by unfold nsOk; rw [e1.out]; rfl]
   exact bodyPost_ret (by simp [results, Try.results58, d0, d1, go_sem]; try rfl) rfl ⟨rfl, bl⟩
end Go.Proofs.Ytdjbfneniohaaaa
namespace Go.Proofs.Ytdjbfneniohaaaa
set_option linter.unusedVariables false
set_option linter.unusedSimpArgs false
set_option maxRecDepth 100000
open Go.RowKit
set_option maxHeartbeats 400000 in
theorem specUnionCsets_any (a0 a1 b0 b1 : Int) (w : World) :
  Calls Try.prog 63 #[.agg #[.int .i64 a0, .int .i64 a1], .agg #[.int .i64 b0, .int .i64 b1]] w fun e w' => e = .returned (.agg #[.int .i64 (bits .or .i64 a0 b0), .int .i64 (bits .or .i64 a1 b1)]) ∧ Bel w w' := by
 go_enter Try.func63, Try.ntmps63
 go_wp2
 go_returns
 exact ⟨rfl, bl⟩
set_option maxHeartbeats 400000 in
theorem implUnionCsets_any (a0 a1 b0 b1 : Int) (w : World) :
  Calls Try.prog 59 #[.agg #[.int .i64 a0, .int .i64 a1], .agg #[.int .i64 b0, .int .i64 b1]] w fun e w' => e = .returned (.agg #[.int .i64 (bits .or .i64 a0 b0), .int .i64 (bits .or .i64 a1 b1)]) ∧ Bel w w' := by
 go_enter Try.func59, Try.ntmps59
 go_wp2
 go_returns
 exact ⟨rfl, bl⟩
end Go.Proofs.Ytdjbfneniohaaaa
