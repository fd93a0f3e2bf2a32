/- A box of six cells of the call's own (a result), kept through calls and stores; a world under one name. -/
import Derived.Test.YtmikipcfepgogaaDoorA4
import Derived.Deep.Cut
namespace Go.Proofs.YtmikipcfepgogaaDoor
set_option linter.unusedVariables false
set_option linter.unusedSimpArgs false
set_option maxRecDepth 100000
open Go.RowKit

/-- A world under one name: what was there is as it was. -/
theorem gen_world {P : Program} {c : Code} {Q : Exit → Act → World → Prop} {a : Act} {W0 W1 W : World} (h1 : Bel W0 W1) (h2 : Bel W1 W) (h : ∀ w2, Bel W0 w2 → Code.wp P c Q a w2) : Code.wp P c Q a W :=
  h W (h1.trans h2)
/-- A box of six cells that hold nothing. -/
def Z6 (w : World) (b : Nat) : Prop := w.cell? ⟨b, 0, none⟩ = some (.int .i64 0) ∧ w.cell? ⟨b, 1, none⟩ = some (.int .i64 0) ∧ w.cell? ⟨b, 2, none⟩ = some (.int .i64 0) ∧ w.cell? ⟨b, 3, none⟩ = some (.string ByteArray.empty) ∧ w.cell? ⟨b, 4, none⟩ = some (.int .i64 0) ∧ w.cell? ⟨b, 5, none⟩ = some (.int .i64 0) ∧ (∀ o, w.frozen? ⟨b, o, none⟩ = false) ∧ b < w.heap.size
theorem Z6.on {w w' : World} {b : Nat} (h : Z6 w b) (hb : Bel w w') : Z6 w' b := by
  obtain ⟨c0, c1, c2, c3, c4, c5, f, l⟩ := h
  exact ⟨(hb.box b l 0).trans c0, (hb.box b l 1).trans c1, (hb.box b l 2).trans c2, (hb.box b l 3).trans c3, (hb.box b l 4).trans c4, (hb.box b l 5).trans c5, fun o => (hb.boxf b l o).trans (f o), Nat.lt_of_lt_of_le l hb.size⟩
theorem Z6.new {w : World} {t : TypeId} : Z6 (w.alloc (.cells #[.int .i64 0, .int .i64 0, .int .i64 0, .string ByteArray.empty, .int .i64 0, .int .i64 0] t)) w.heap.size :=
  ⟨by simp, by simp, by simp, by simp, by simp, by simp, fun o => by simp, by simp⟩
/-- Behind a store of six cells. -/
def put6 (w : World) (b : Nat) (x0 x1 x2 x3 x4 x5 : Value) : World := (((((w.setCell ⟨b, 0, none⟩ x0).setCell ⟨b, 1, none⟩ x1).setCell ⟨b, 2, none⟩ x2).setCell ⟨b, 3, none⟩ x3).setCell ⟨b, 4, none⟩ x4).setCell ⟨b, 5, none⟩ x5
theorem Z6.put {w : World} {b : Nat} (h : Z6 w b) (x0 x1 x2 x3 x4 x5 : Value) :
    (put6 w b x0 x1 x2 x3 x4 x5).cell? ⟨b, 0, none⟩ = some x0 ∧ (put6 w b x0 x1 x2 x3 x4 x5).cell? ⟨b, 1, none⟩ = some x1 ∧ (put6 w b x0 x1 x2 x3 x4 x5).cell? ⟨b, 2, none⟩ = some x2 ∧ (put6 w b x0 x1 x2 x3 x4 x5).cell? ⟨b, 3, none⟩ = some x3 ∧ (put6 w b x0 x1 x2 x3 x4 x5).cell? ⟨b, 4, none⟩ = some x4 ∧ (put6 w b x0 x1 x2 x3 x4 x5).cell? ⟨b, 5, none⟩ = some x5 := by
  obtain ⟨c0, c1, c2, c3, c4, c5, f, l⟩ := h
  have n : ∀ i j : Nat, i ≠ j → (⟨b, i, none⟩ : Addr) ≠ ⟨b, j, none⟩ := fun i j h e => h (by injection e)
  unfold put6
  refine ⟨?_, ?_, ?_, ?_, ?_, ?_⟩
  · rw [World.cell?_setCell_other (h := n 5 0 (by decide)), World.cell?_setCell_other (h := n 4 0 (by decide)), World.cell?_setCell_other (h := n 3 0 (by decide)), World.cell?_setCell_other (h := n 2 0 (by decide)), World.cell?_setCell_other (h := n 1 0 (by decide)), World.cell?_setCell_same (h := c0)]
  · rw [World.cell?_setCell_other (h := n 5 1 (by decide)), World.cell?_setCell_other (h := n 4 1 (by decide)), World.cell?_setCell_other (h := n 3 1 (by decide)), World.cell?_setCell_other (h := n 2 1 (by decide)), World.cell?_setCell_same (u := .int .i64 0) (h := by rw [World.cell?_setCell_other (h := n 0 1 (by decide))]; exact c1)]
  · rw [World.cell?_setCell_other (h := n 5 2 (by decide)), World.cell?_setCell_other (h := n 4 2 (by decide)), World.cell?_setCell_other (h := n 3 2 (by decide)), World.cell?_setCell_same (u := .int .i64 0) (h := by rw [World.cell?_setCell_other (h := n 1 2 (by decide)), World.cell?_setCell_other (h := n 0 2 (by decide))]; exact c2)]
  · rw [World.cell?_setCell_other (h := n 5 3 (by decide)), World.cell?_setCell_other (h := n 4 3 (by decide)), World.cell?_setCell_same (u := .string ByteArray.empty) (h := by rw [World.cell?_setCell_other (h := n 2 3 (by decide)), World.cell?_setCell_other (h := n 1 3 (by decide)), World.cell?_setCell_other (h := n 0 3 (by decide))]; exact c3)]
  · rw [World.cell?_setCell_other (h := n 5 4 (by decide)), World.cell?_setCell_same (u := .int .i64 0) (h := by rw [World.cell?_setCell_other (h := n 3 4 (by decide)), World.cell?_setCell_other (h := n 2 4 (by decide)), World.cell?_setCell_other (h := n 1 4 (by decide)), World.cell?_setCell_other (h := n 0 4 (by decide))]; exact c4)]
  · rw [World.cell?_setCell_same (u := .int .i64 0) (h := by rw [World.cell?_setCell_other (h := n 4 5 (by decide)), World.cell?_setCell_other (h := n 3 5 (by decide)), World.cell?_setCell_other (h := n 2 5 (by decide)), World.cell?_setCell_other (h := n 1 5 (by decide)), World.cell?_setCell_other (h := n 0 5 (by decide))]; exact c5)]
theorem Bel.put6 {w0 w : World} (h : Bel w0 w) {b : Nat} (hb : w0.heap.size ≤ b) (x0 x1 x2 x3 x4 x5 : Value) : Bel w0 (put6 w b x0 x1 x2 x3 x4 x5) :=
  Bel.set (Bel.set (Bel.set (Bel.set (Bel.set (Bel.set h hb x0) hb x1) hb x2) hb x3) hb x4) hb x5
/-- A return behind a store of the six cells of the result. -/
theorem gen_ret6 {P : Program} {fn : Func} {Q : Ending → World → Prop} {ex : Exit} {a : Act} {w : World} {b : Nat} {x0 x1 x2 x3 x4 x5 : Value} (h : Z6 w b)
    (H : ∀ w', w'.cell? ⟨b, 0, none⟩ = some x0 → w'.cell? ⟨b, 1, none⟩ = some x1 → w'.cell? ⟨b, 2, none⟩ = some x2 → w'.cell? ⟨b, 3, none⟩ = some x3 → w'.cell? ⟨b, 4, none⟩ = some x4 → w'.cell? ⟨b, 5, none⟩ = some x5 → (∀ w0, Bel w0 w → w0.heap.size ≤ b → Bel w0 w') → bodyPost P fn Q ex a w') :
    bodyPost P fn Q ex a ((((((w.setCell ⟨b, 0, none⟩ x0).setCell ⟨b, 1, none⟩ x1).setCell ⟨b, 2, none⟩ x2).setCell ⟨b, 3, none⟩ x3).setCell ⟨b, 4, none⟩ x4).setCell ⟨b, 5, none⟩ x5) := by
  obtain ⟨d0, d1, d2, d3, d4, d5⟩ := h.put x0 x1 x2 x3 x4 x5
  exact H _ d0 d1 d2 d3 d4 d5 fun w0 h0 hb => Bel.put6 h0 hb x0 x1 x2 x3 x4 x5
end Go.Proofs.YtmikipcfepgogaaDoor
