/- The base of all texts of this seat: closed facts, values of the language (six cells) and character sets (two cells) as arguments, small lemmas. -/
import Derived.Test.YtdjbfneniohaaaaProg
import Derived.WalkKit
import Derived.WalkSpells
import Derived.WalkLawsBesides
import Derived.ProofKit
import Derived.OpenShut
import Derived.ShutString
import Derived.ChangeOld
import Derived.Below
import Derived.Lib.Hide
import Derived.Handy
import Derived.Deep.Light
namespace Go.Proofs.Ytdjbfneniohaaaa
set_option linter.unusedVariables false
set_option linter.unusedSimpArgs false
set_option maxRecDepth 100000
open Go.ChangeShapes Go.WideShapes Go.ChangeAt Go.RowKit
open Go.ChangeMaps (open_string shut_string)

theorem own : ownKnob Try.prog.godebug = none := by kernel_rfl
theorem laidOut : laidOutB Try.prog = true := by kernel_rfl

/-- An integer that fits 64 bits. -/
def InI (n : Int) : Prop := -9223372036854775808 ≤ n ∧ n ≤ 9223372036854775807
theorem inI_of_wf {n : Int} (h : (Lit.int .i64 n).wf = true) : InI n := by
  have := bounds_i64 h
  unfold InI; omega

theorem hide {p : Prop} (h : p) : Hid p := h

/-- What was there is as it was; new blocks may have come. -/
def Bel (w w' : World) : Prop := Below w.heap.size w w'
namespace Bel
theorem refl (w : World) : Bel w w := Below.refl _ _
theorem size {w w' : World} (h : Bel w w') : w.heap.size ≤ w'.heap.size := Below.size h
theorem trans {a b c : World} (h : Bel a b) (k : Bel b c) : Bel a c := Below.trans h (Below.mono k h.size)
theorem alloc {a b : World} (h : Bel a b) (o : Obj) : Bel a (b.alloc o) := Below.alloc h h.size o
theorem drew {a b : World} (h : Bel a b) : Bel a b.drew := Below.drew h
theorem drewN {a b : World} (h : Bel a b) (n : Nat) : Bel a (b.drewN n) := ⟨h.os, h.tape, h.output, h.size, h.block⟩
theorem set {a b : World} (h : Bel a b) {p : Addr} (hp : a.heap.size ≤ p.block) (v : Value) : Bel a (b.setCell p v) := Below.setCell h hp v
theorem facts {W w1 : World} (hb : Bel W w1) : (∀ b o, b < W.heap.size → w1.cell? ⟨b, o, none⟩ = W.cell? ⟨b, o, none⟩) ∧ (∀ b o, b < W.heap.size → w1.frozen? ⟨b, o, none⟩ = W.frozen? ⟨b, o, none⟩) ∧ W.heap.size ≤ w1.heap.size :=
  ⟨fun b o h => Below.cell (p := ⟨b, o, none⟩) hb h, fun b o h => Below.frozen (p := ⟨b, o, none⟩) hb h, hb.size⟩
theorem box {W w1 : World} (hb : Bel W w1) (b : Nat) (h : b < W.heap.size) : ∀ o, w1.cell? ⟨b, o, none⟩ = W.cell? ⟨b, o, none⟩ := fun o => hb.facts.1 b o h
theorem boxf {W w1 : World} (hb : Bel W w1) (b : Nat) (h : b < W.heap.size) : ∀ o, w1.frozen? ⟨b, o, none⟩ = W.frozen? ⟨b, o, none⟩ := fun o => hb.facts.2.1 b o h
theorem boxA {W w1 : World} (hb : Bel W w1) (b : Nat) (h : b < W.heap.size := by first | (simp; done) | (simp; omega) | omega) : ∀ o, w1.cell? ⟨b, o, none⟩ = W.cell? ⟨b, o, none⟩ := hb.box b h
theorem boxfA {W w1 : World} (hb : Bel W w1) (b : Nat) (h : b < W.heap.size := by first | (simp; done) | (simp; omega) | omega) : ∀ o, w1.frozen? ⟨b, o, none⟩ = W.frozen? ⟨b, o, none⟩ := hb.boxf b h
/-- A box that was there before a call: its cells, its state, and where it lies. -/
theorem lay {W w1 : World} (hb : Bel W w1) (b : Nat) (h : b < W.heap.size := by first | (simp; done) | (simp; omega) | omega) :
    (∀ o, w1.cell? ⟨b, o, none⟩ = W.cell? ⟨b, o, none⟩) ∧ (∀ o, w1.frozen? ⟨b, o, none⟩ = W.frozen? ⟨b, o, none⟩) ∧ b < w1.heap.size ∧ ¬ b = w1.heap.size :=
  ⟨hb.box b h, hb.boxf b h, Nat.lt_of_lt_of_le h hb.size, fun e => Nat.lt_irrefl _ (e ▸ Nat.lt_of_lt_of_le h hb.size)⟩
/-- How far the memory reached before a call. -/
theorem sz {W w1 : World} {n : Nat} (hb : Bel W w1) (h : W.heap.size = n := by first | (simp only [World.size_alloc, World.size_setCell, World.size_drew, World.heap_drewN]; exact rfl) | exact rfl) : n ≤ w1.heap.size := h ▸ hb.size
end Bel
/-- What was there is as it was: the steps that lead there, one by one. -/
theorem bl {w w' : World} (h : Bel w w' := by repeat' (first | with_reducible exact Bel.refl _ | with_reducible assumption | with_reducible refine Bel.set ?_ ?_ _ | with_reducible refine Bel.alloc ?_ _ | with_reducible refine Bel.drew ?_ | with_reducible refine Bel.drewN ?_ _ | with_reducible refine Bel.trans ?_ (by with_reducible assumption) | (simp; done) | (simp; omega) | refine Bel.alloc ?_ _ | refine Bel.drew ?_ | refine Bel.drewN ?_ _ | refine Bel.set ?_ ?_ _)) : Bel w w' := h
/-- A box of two cells, still there. -/
theorem box2_step {w w1 w2 : World} {b : Nat} {c0 c1 : Value} (h : w1.cell? ⟨b, 0, none⟩ = some c0 ∧ w1.cell? ⟨b, 1, none⟩ = some c1 ∧ b < w1.heap.size ∧ Bel w w1) (hb : Bel w1 w2) :
    w2.cell? ⟨b, 0, none⟩ = some c0 ∧ w2.cell? ⟨b, 1, none⟩ = some c1 ∧ b < w2.heap.size ∧ Bel w w2 :=
  ⟨(hb.box b h.2.2.1 0).trans h.1, (hb.box b h.2.2.1 1).trans h.2.1, Nat.lt_of_lt_of_le h.2.2.1 hb.size, h.2.2.2.trans hb⟩

theorem ba_eq (s t : ByteArray) : s.toList = t.toList ↔ s = t := by
  constructor
  · intro h
    have e : ∀ x : ByteArray, x.toList = x.data.toList := fun x => ByteArray.toList_eq x
    rw [e, e] at h
    exact ByteArray.ext (Array.toList_inj.1 h)
  · rintro rfl; rfl

/-- A map that the call has just made, with integers for keys: one entry more; a look-up. -/
theorem run_ins_int {P : Program} (w0 : World) (es : Array MapEntry) (c : Nat) {t kt e : TypeId} (ht : P.underlying t = some (.map kt e)) (hk : P.underlying kt = some (.int .i64)) (b : Nat) (k : Int) (v : Value)
    (hb : b = w0.heap.size) (hnew : Instr.findNow (.int .i64) (.int .i64 k) es.toList 0 = some none) :
    (Instr.mapUpdate t (.map (some b)) (.int .i64 k) v).run P (w0.alloc (.map es c)) = .ok () (w0.alloc (.map (es.push ⟨.int .i64 k, v, c⟩) (c + 1))) := by
  subst hb
  have h0 : (w0.alloc (.map es c)).heap[w0.heap.size]? = some (.map es c) := heap_alloc_new w0 _
  have hck : ∀ w, (Instr.checkKey false 10000 kt (.int .i64 k)).run P w = .ok () w := fun w => MapKept.run_checkKey hk (by simp [MapKept.IsKey]) false 9999
  simp [Instr.mapUpdate, run_underlying ht, MapKept.run_getObj_map h0, hck, run_underlying hk, Instr.findKey, hnew, MapKept.run_setObj_map _ h0, Result.andThen]
  have e : ∀ o o', (w0.heap.push o).setIfInBounds w0.heap.size o' = w0.heap.push o' := fun o o' => by apply Array.toList_inj.1; simp [Array.toList_setIfInBounds, List.set_append, ← Array.length_toList]
  have e2 : ∀ o o', { w0 with heap := (w0.heap.push o).setIfInBounds w0.heap.size o' } = ({ w0 with heap := w0.heap.push o' } : World) := fun o o' => by rw [e]
  exact e2 _ _
theorem run_look_int {P : Program} (w0 : World) (es : Array MapEntry) (c : Nat) {t kt e : TypeId} (ht : P.underlying t = some (.map kt e)) (hk : P.underlying kt = some (.int .i64)) (he : P.underlying e = some .string) (b : Nat) (k : Int) (r : Option (Nat × Value))
    (hb : b = w0.heap.size) (hr : Instr.findNow (.int .i64) (.int .i64 k) es.toList 0 = some r) (hz : ∀ w, (zeroValue e).run P w = .ok (.string ByteArray.empty) w) :
    (Instr.lookup t (.map (some b)) (.int .i64 k) false).run P (w0.alloc (.map es c)) = .ok (match r with | some x => x.2 | none => .string ByteArray.empty) (w0.alloc (.map es c)) := by
  subst hb
  have h0 : (w0.alloc (.map es c)).heap[w0.heap.size]? = some (.map es c) := heap_alloc_new w0 _
  have hck : ∀ em w, (Instr.checkKey em 10000 kt (.int .i64 k)).run P w = .ok () w := fun em w => MapKept.run_checkKey hk (by simp [MapKept.IsKey]) em 9999
  cases r with
  | none => simp [Instr.lookup, run_underlying ht, MapKept.run_getObj_map h0, hck, run_underlying hk, Instr.findKey, hr, hz, Result.andThen]
  | some x => simp [Instr.lookup, run_underlying ht, MapKept.run_getObj_map h0, hck, run_underlying hk, Instr.findKey, hr, Result.andThen]

structure VVal where
  k : Int
  n : Int
  i : Int
  t : ByteArray
  lo : Int
  hi : Int
def VVal.val (v : VVal) : Value := .agg #[.int .i64 v.k, .int .i64 v.n, .int .i64 v.i, .string v.t, .int .i64 v.lo, .int .i64 v.hi]
structure VVal.Ok (v : VVal) : Prop where
  k : InI v.k
  n : InI v.n
  i : InI v.i
  t : v.t.size ≤ maxLen
  lo : InI v.lo
  hi : InI v.hi

theorem list2 {α : Type} {l : List α} (h : l.length = 2) : ∃ a b, l = [a, b] := by
  match l, h with
  | [a, b], _ => exact ⟨a, b, rfl⟩
theorem list5 {α : Type} {l : List α} (h : l.length = 5) : ∃ a b c d e, l = [a, b, c, d, e] := by
  match l, h with
  | [a, b, c, d, e], _ => exact ⟨a, b, c, d, e, rfl⟩
theorem list6 {α : Type} {l : List α} (h : l.length = 6) : ∃ a b c d e f, l = [a, b, c, d, e, f] := by
  match l, h with
  | [a, b, c, d, e, f], _ => exact ⟨a, b, c, d, e, f, rfl⟩

section
variable {H : Type} {enc : TypeId × Value → H} {w : World} {base : Nat} {spare : Nat → Bool} {held : Bool}
theorem trod_lCset {fuel : Nat} {cs : List Value} {x : DataW H × List MemPlace} (h : DataW.trod enc Try.prog w base spare held fuel 45 cs = some x) :
    ∃ lo hi : Int, cs = [.int .i64 lo, .int .i64 hi] ∧ InI lo ∧ InI hi := by
  obtain ⟨xs, n, _, hx, hl, hlen, hg⟩ := DataW.trod_struct Try.underlying45 h
  obtain ⟨c0, c1, rfl⟩ := list2 (hl.trans (by kernel_rfl))
  obtain ⟨y0, y1, rfl⟩ := list2 (hlen.trans (by kernel_rfl))
  have g0 := hg 0 _ rfl
  have g1 := hg 1 _ rfl
  obtain ⟨a, e0, _, w0⟩ := DataW.trod_int (cs := [c0]) Try.underlying3 g0
  obtain ⟨b, e1, _, w1⟩ := DataW.trod_int (cs := [c1]) Try.underlying3 g1
  simp only [List.cons.injEq, and_true] at e0 e1
  subst e0 e1
  exact ⟨a, b, rfl, inI_of_wf w0, inI_of_wf w1⟩
theorem open_lCset {r : Reach} {b0 : Nat} {v : Value} {d : DataW H} {p : List MemPlace} (hv : Value.okWide Try.prog w r b0 45 v) (h : DataW.Trod enc Try.prog w base spare held 45 v d p) :
    ∃ lo hi : Int, v = .agg #[.int .i64 lo, .int .i64 hi] ∧ InI lo ∧ InI hi := by
  obtain ⟨cs, rfl, hsz⟩ := okWide_struct Try.underlying45 hv
  obtain ⟨fuel, hf⟩ := h
  obtain ⟨lo, hi, e, h1, h2⟩ := trod_lCset hf
  obtain ⟨l⟩ := cs
  simp only [Value.cells] at e
  subst e
  exact ⟨lo, hi, rfl, h1, h2⟩
end
end Go.Proofs.Ytdjbfneniohaaaa
