/- The base of all texts of this seat: closed facts, values of the language (six cells) and character sets (two cells) as arguments, small lemmas. -/
import Derived.Test.YtdacpljinffnaaaDoorProg
import Derived.WalkKit
import Derived.WalkSpells
import Derived.WalkLawsBesides
import Derived.ProofKit
import Derived.OpenShut
import Derived.ShutString
import Derived.ChangeOld
import Derived.Below
import Derived.Lib.Hide
import Derived.Handy
import Derived.Deep.Light
import Derived.Deep.QuietTactic
import Derived.BigQuiet
import Derived.Deep.RegionHeld3
import Derived.StillTailTactics
namespace Go.Proofs.YtdacpljinffnaaaDoor
set_option linter.unusedVariables false
set_option linter.unusedSimpArgs false
set_option maxRecDepth 100000
open Go.ChangeShapes Go.WideShapes Go.ChangeAt Go.RowKit
open Go.ChangeMaps (open_string shut_string)
theorem own : ownKnob Tryd.prog.godebug = none := by kernel_rfl
theorem laidOut : laidOutB Tryd.prog = true := by kernel_rfl
def InI (n : Int) : Prop := -9223372036854775808 ≤ n ∧ n ≤ 9223372036854775807
theorem hide {p : Prop} (h : p) : Hid p := h
def Bel (w w' : World) : Prop := Below w.heap.size w w'
namespace Bel
theorem refl (w : World) : Bel w w := Below.refl _ _
theorem size {w w' : World} (h : Bel w w') : w.heap.size ≤ w'.heap.size := Below.size h
theorem trans {a b c : World} (h : Bel a b) (k : Bel b c) : Bel a c := Below.trans h (Below.mono k h.size)
theorem alloc {a b : World} (h : Bel a b) (o : Obj) : Bel a (b.alloc o) := Below.alloc h h.size o
theorem drew {a b : World} (h : Bel a b) : Bel a b.drew := Below.drew h
theorem drewN {a b : World} (h : Bel a b) (n : Nat) : Bel a (b.drewN n) := ⟨h.os, h.tape, h.output, h.size, h.block⟩
theorem set {a b : World} (h : Bel a b) {p : Addr} (hp : a.heap.size ≤ p.block) (v : Value) : Bel a (b.setCell p v) := Below.setCell h hp v
theorem facts {W w1 : World} (hb : Bel W w1) : (∀ b o, b < W.heap.size → w1.cell? ⟨b, o, none⟩ = W.cell? ⟨b, o, none⟩) ∧ (∀ b o, b < W.heap.size → w1.frozen? ⟨b, o, none⟩ = W.frozen? ⟨b, o, none⟩) ∧ W.heap.size ≤ w1.heap.size :=
 ⟨fun b o h => Below.cell (p := ⟨b, o, none⟩) hb h, fun b o h => Below.frozen (p := ⟨b, o, none⟩) hb h, hb.size⟩
theorem box {W w1 : World} (hb : Bel W w1) (b : Nat) (h : b < W.heap.size) : ∀ o, w1.cell? ⟨b, o, none⟩ = W.cell? ⟨b, o, none⟩ := fun o => hb.facts.1 b o h
theorem boxf {W w1 : World} (hb : Bel W w1) (b : Nat) (h : b < W.heap.size) : ∀ o, w1.frozen? ⟨b, o, none⟩ = W.frozen? ⟨b, o, none⟩ := fun o => hb.facts.2.1 b o h
theorem lay {W w1 : World} (hb : Bel W w1) (b : Nat) (h : b < W.heap.size := by first | (simp; done) | (simp; omega) | omega) :
  (∀ o, w1.cell? ⟨b, o, none⟩ = W.cell? ⟨b, o, none⟩) ∧ (∀ o, w1.frozen? ⟨b, o, none⟩ = W.frozen? ⟨b, o, none⟩) ∧ b < w1.heap.size ∧ ¬ b = w1.heap.size :=
 ⟨hb.box b h, hb.boxf b h, Nat.lt_of_lt_of_le h hb.size, fun e => Nat.lt_irrefl _ (e ▸ Nat.lt_of_lt_of_le h hb.size)⟩
theorem sz {W w1 : World} {n : Nat} (hb : Bel W w1) (h : W.heap.size = n := by first | (simp only [World.size_alloc, World.size_setCell, World.size_drew, World.heap_drewN]; exact rfl) | exact rfl) : n ≤ w1.heap.size := h ▸ hb.size
end Bel
theorem bl {w w' : World} (h : Bel w w' := by repeat' (first | with_reducible exact Bel.refl _ | with_reducible assumption | with_reducible refine Bel.set ?_ ?_ _ | with_reducible refine Bel.alloc ?_ _ | with_reducible refine Bel.drew ?_ | with_reducible refine Bel.drewN ?_ _ | with_reducible refine Bel.trans ?_ (by with_reducible assumption) | (simp; done) | (simp; omega) | refine Bel.alloc ?_ _ | refine Bel.drew ?_ | refine Bel.drewN ?_ _ | refine Bel.set ?_ ?_ _)) : Bel w w' := h
theorem ba_eq (s t : ByteArray) : s.toList = t.toList ↔ s = t := by
 constructor
 ·
  intro h
  have e : ∀ x : ByteArray, x.toList = x.data.toList := fun x => ByteArray.toList_eq x
  rw [e, e] at h
  exact ByteArray.ext (Array.toList_inj.1 h)
 ·
  rintro rfl; rfl
structure VVal where
 k : Int
 n : Int
 i : Int
 t : ByteArray
 lo : Int
 hi : Int
def VVal.val (v : VVal) : Value := .agg #[.int .i64 v.k, .int .i64 v.n, .int .i64 v.i, .string v.t, .int .i64 v.lo, .int .i64 v.hi]
structure VVal.Ok (v : VVal) : Prop where
 k : InI v.k
 n : InI v.n
 i : InI v.i
 t : v.t.size ≤ maxLen
 lo : InI v.lo
 hi : InI v.hi
section
variable {H : Type} {enc : TypeId × Value → H} {w : World} {base : Nat} {spare : Nat → Bool} {held : Bool}
end
end Go.Proofs.YtdacpljinffnaaaDoor
namespace Go.Proofs.YtdacpljinffnaaaDoor
set_option linter.unusedVariables false
set_option linter.unusedSimpArgs false
set_option maxRecDepth 100000
open Go.RowKit
def byteAt (s : ByteArray) (i : Nat) : Nat := (s.data.toList.getD i 0).toNat
theorem byteAt_eq (s : ByteArray) (i : Nat) (h : i < s.size) : (s[i]'h).toNat = byteAt s i := by
 unfold byteAt
 have h2 : i < s.data.toList.length := by simpa using h
 rw [List.getD_eq_getElem?_getD, List.getElem?_eq_getElem h2]
 rfl
@[go_sem] theorem cell_set_same (w : World) (a : Addr) (v : Value) (h : (w.cell? a).isSome = true) : (w.setCell a v).cell? a = some v := by
 obtain ⟨u, hu⟩ := Option.isSome_iff_exists.1 h
 exact World.cell?_setCell_same w a v hu
end Go.Proofs.YtdacpljinffnaaaDoor
