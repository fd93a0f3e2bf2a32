/- A unit's names: lists of the call's own; the closure that takes a name. -/
import Derived.Test.YtdacpljinffnaaaDoorPYv
import Derived.OneCell
namespace Go.Proofs.YtdacpljinffnaaaDoor
set_option linter.unusedVariables false
set_option linter.unusedSimpArgs false
set_option maxRecDepth 100000
open Go.RowKit
theorem OwnS.strs {wB w : World} (hb : Bel wB w) (l : List ByteArray) (hs : ∀ x ∈ l, x.size ≤ maxLen) (hl : l.length ≤ maxLen) : OwnS wB (w.alloc (.cells (l.map Value.string).toArray 9)) (.slice (some ⟨w.heap.size, 0, none⟩) l.length l.length) l :=
 ⟨⟨by simp, Or.inr ⟨w.heap.size, l.length, (l.map Value.string).toArray, rfl, hb.size, heap_alloc_new w _, Nat.le_refl _, hl, by simp, by simp; exact List.take_of_length_le (by simp)⟩⟩, hs⟩
theorem funL_len : funL.length = 55 := by decide +kernel
theorem funL_size : ∀ x ∈ funL, x.size ≤ maxLen := by
 have h : funL.all (fun x => decide (x.size ≤ 100)) = true := by decide +kernel
 intro x hx
 have := List.all_eq_true.1 h x hx
 rw [decide_eq_true_eq] at this
 unfold maxLen
 omega
theorem l9Twice_own {wB w : World} {v : Value} {xs : List ByteArray} (h : OwnS wB w v xs) : Calls Tryd.prog 19 #[v] w fun e w' => e = .returned (.bool (twiceB xs)) ∧ Bel w w' := by
 obtain ⟨A, c, rfl, hrow⟩ := OwnS.row h
 exact l9Twice_row xs _ w A c hrow
theorem l9Find_own {wB w : World} {v : Value} {xs : List ByteArray} (h : OwnS wB w v xs) (x : ByteArray) : Calls Tryd.prog 18 #[v, .string x] w fun e w' => e = .returned (.int .i64 (Lib.idxOfS xs x)) ∧ w = w' := by
 obtain ⟨A, c, rfl, hrow⟩ := OwnS.row h
 exact l9Find_row xs x _ w A c hrow
def KeptB (b : Nat) (w w' : World) : Prop := w.heap.size ≤ w'.heap.size ∧ ∀ (k : Nat) (ob : Obj), k ≠ b → w.heap[k]? = some ob → (∀ cur z, ob ≠ Obj.cells cur 9 z) → w'.heap[k]? = some ob
theorem KeptB.trans {b : Nat} {w1 w2 w3 : World} (h1 : KeptB b w1 w2) (h2 : KeptB b w2 w3) : KeptB b w1 w3 := ⟨Nat.le_trans h1.1 h2.1, fun k ob hn h hs => h2.2 k ob hn (h1.2 k ob hn h hs) hs⟩
theorem KeptB.ofKept {b : Nat} {w w' : World} (h : Kept w w') : KeptB b w w' := ⟨h.1, fun k ob _ hk hs => h.2 k ob hk hs⟩
theorem KeptB.ofBel {b : Nat} {w w' : World} (h : Bel w w') : KeptB b w w' := KeptB.ofKept (Kept.ofBel h)
theorem KeptB.set {b : Nat} (w : World) (v : Value) : KeptB b w (w.setCell ⟨b, 0, none⟩ v) := ⟨by simp, fun k ob hn hk _ => (heap_setCell_other w _ k v hn).trans hk⟩
theorem KeptB.box {q : Nat} {w w' : World} (h : KeptB q w w') {b : Nat} (hne : b ≠ q) {arr : Array Value} {T : TypeId} (hb : w.heap[b]? = some (Obj.cells arr T)) (hT : T ≠ 9) : ∀ i, w'.cell? ⟨b, i, none⟩ = w.cell? ⟨b, i, none⟩ := fun i =>
 World.cell?_of_block (by show w'.heap[b]? = w.heap[b]?; rw [h.2 b _ hne hb (fun cur z e => hT (by injection e)), hb])
theorem KeptB.obj {q : Nat} {w w' : World} (h : KeptB q w w') {b : Nat} (hne : b ≠ q) {arr : Array Value} {T : TypeId} (hb : w.heap[b]? = some (Obj.cells arr T)) (hT : T ≠ 9) : w'.heap[b]? = some (Obj.cells arr T) := h.2 b _ hne hb (fun cur z e => hT (by injection e))
end Go.Proofs.YtdacpljinffnaaaDoor
