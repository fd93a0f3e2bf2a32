/- Names gathered into a list of the call's own: what is kept, what is owned. -/
import Derived.Test.YtjodcciloflgbaaDoorYa
import Derived.Test.YtjodcciloflgbaaDoorTk
import Derived.Deep.RegionHeld3
import Derived.Deep.Cut
import Derived.OwnWalk
namespace Go.Proofs.YtjodcciloflgbaaDoor
set_option linter.unusedVariables false
set_option linter.unusedSimpArgs false
set_option maxRecDepth 100000
open Go.RowKit

theorem infoStr : (Tryd.prog.info? 9).map (fun i => (i.zero, i.size, i.bytes)) = some (some (.string ByteArray.empty), 1, 16) := by kernel_rfl
/-- The list xs lies in a block of its own, above the world wB. -/
def OwnS (wB w : World) (v : Value) (xs : List ByteArray) : Prop := w.ownsRow wB.heap.size 9 1 v xs.length (xs.map Value.string) ∧ ∀ x ∈ xs, x.size ≤ maxLen
/-- Blocks that hold no texts are kept. -/
def Kept (w w' : World) : Prop := w.heap.size ≤ w'.heap.size ∧ ∀ (k : Nat) (ob : Obj), w.heap[k]? = some ob → (∀ cur z, ob ≠ Obj.cells cur 9 z) → w'.heap[k]? = some ob
theorem Kept.refl (w : World) : Kept w w := ⟨Nat.le_refl _, fun _ _ h _ => h⟩
theorem Kept.trans {a b c : World} (h1 : Kept a b) (h2 : Kept b c) : Kept a c := ⟨Nat.le_trans h1.1 h2.1, fun k ob h hn => h2.2 k ob (h1.2 k ob h hn) hn⟩
theorem heap_lt {w : World} {k : Nat} {ob : Obj} (h : w.heap[k]? = some ob) : k < w.heap.size := (Array.getElem?_eq_some_iff.1 h).1
theorem Kept.ofBel {w w' : World} (h : Bel w w') : Kept w w' := ⟨h.size, fun k ob hk _ => (Below.block h k (heap_lt hk)).trans hk⟩
theorem OwnS.bel {wB w w' : World} {v : Value} {xs : List ByteArray} (h : OwnS wB w v xs) (hb : Bel w w') : OwnS wB w' v xs := by
  refine ⟨⟨h.1.1, h.1.2.elim Or.inl (fun ⟨g, cap, cur, hv, hg, hh, r⟩ => Or.inr ⟨g, cap, cur, hv, hg, (Below.block hb g (heap_lt hh)).trans hh, r⟩)⟩, h.2⟩
theorem Kept.grown {wB w w' : World} {v : Value} {xs : List ByteArray} (h : OwnS wB w v xs) (hg : w.grownBy w' v.ownBlock) : Kept w w' := by
  refine ⟨hg.size, fun k ob hk hn => (hg.block k (heap_lt hk) fun e => ?_).trans hk⟩
  rcases h.1.2 with ⟨rfl, -⟩ | ⟨g, cap, cur, rfl, -, hh, -⟩
  · cases e
  · simp only [Value.ownBlock, Option.some.injEq] at e
    subst e
    rw [hk] at hh
    exact hn _ _ (Option.some.inj hh)
theorem Kept.box {w w' : World} (h : Kept w w') {b : Nat} {arr : Array Value} {T : TypeId} (hb : w.heap[b]? = some (Obj.cells arr T)) (hT : T ≠ 9) : ∀ i, w'.cell? ⟨b, i, none⟩ = w.cell? ⟨b, i, none⟩ := fun i =>
  World.cell?_of_block (by show w'.heap[b]? = w.heap[b]?; rw [h.2 b _ hb (fun cur z e => hT (by injection e)), hb])
theorem OwnS.base {wB w : World} {v : Value} {xs : List ByteArray} (h : OwnS wB w v xs) : ∀ k, v.ownBlock = some k → wB.heap.size ≤ k := fun k hk => (World.ownsRow.lt h.1 k hk).1
/-- What is owned reads as a row of texts. -/
theorem OwnS.row {wB w : World} {v : Value} {xs : List ByteArray} (h : OwnS wB w v xs) : ∃ A c, v = .slice A xs.length c ∧ Row w (fun _ => True) 1 A c (strsD xs) := by
  obtain ⟨⟨h1, h2⟩, h3⟩ := h
  rcases h2 with ⟨rfl, h0⟩ | ⟨g, cap, cur, rfl, hg, hh, hn, hm, hs, ht⟩
  · have : xs = [] := List.eq_nil_of_length_eq_zero h0
    subst this
    exact ⟨none, 0, rfl, by simp, by unfold maxLen; omega, fun q => absurd rfl q⟩
  · refine ⟨some ⟨g, 0, none⟩, cap, rfl, by simpa using hn, hm, fun _ => ⟨g, 0, rfl, trivial, heap_lt hh, Dat.HoldRows.mk fun i hi => ⟨?_, by simp⟩⟩⟩
    have hi' : i < xs.length := by simpa using hi
    have hc : w.cell? ⟨g, i, none⟩ = some (.string xs[i]) := by
      rw [cell_of_row w g i cur 9 (0, 0) hh]
      have : cur.toList[i]? = (cur.toList.take (xs.length * 1))[i]? := by rw [List.getElem?_take_of_lt (by omega)]
      rw [← Array.getElem?_toList, this, ht]
      simp [hi']
    simp only [strsD, List.getElem_map, Nat.zero_add, Nat.mul_one, Dat.HoldCells, and_true]
    exact ⟨_, hc, by simp only [Dat.Holds]; first | exact ⟨rfl, h3 _ (List.getElem_mem hi')⟩ | exact ⟨trivial, h3 _ (List.getElem_mem hi')⟩ | exact h3 _ (List.getElem_mem hi')⟩
/-- Is a text in a row of texts? -/
theorem contains_row (xs : List ByteArray) (x : ByteArray) (S : Nat → Prop) (w : World) (A : Option Addr) (c : Nat) (hR : Row w S 1 A c (strsD xs)) :
    Calls Tryd.prog 60 #[.slice A xs.length c, .string x] w fun e w' => e = .returned (.bool (Lib.containsS xs x)) ∧ w = w' := by
  rcases Nat.eq_zero_or_pos xs.length with h0 | h0
  · obtain rfl : xs = [] := List.eq_nil_of_length_eq_zero h0
    exact (Tryd.slices_Contains_string_empty A c x w).mono fun e w' ⟨h1, h2⟩ => ⟨h1, h2.symm⟩
  · obtain ⟨b, oo, rfl, -, hb⟩ := Row.addr hR (by simpa using h0)
    have hlen := hR.1
    have hcm := hR.2.1
    simp only [strsD, List.length_map] at hlen
    unfold maxLen at hcm
    have h := Tryd.slices_Contains_string b oo xs.length c xs x w (Nat.le_refl _) (by omega) (fun j hj => Row.strs hR j hj)
    rw [List.take_length] at h
    exact h.mono fun e w' ⟨h1, h2⟩ => ⟨h1, h2.symm⟩
theorem idx_row (xs : List ByteArray) (x : ByteArray) : decide (Lib.idxOfS xs x < 0) = !Lib.containsS xs x := by
  rw [Bool.eq_iff_iff, decide_eq_true_eq, Bool.not_eq_true', ← Bool.not_eq_true, Lib.containsS_iff]
  constructor
  · intro h hx
    obtain ⟨j, hj, he⟩ := List.mem_iff_getElem.1 hx
    unfold Lib.containsS at *
    have := (Lib.containsS_iff xs x).2 hx
    unfold Lib.containsS at this
    simp at this
    omega
  · intro h
    rw [idx_miss (l := xs) (x := x) fun j hj he => h (by rw [← he]; exact List.getElem_mem hj)]
    omega
mutual
/-- The names that an expression adds to a list; O: does a name mean nothing outside? -/
def TExpr.col (O : ByteArray → Bool) : TExpr → List ByteArray → List ByteArray
  | .mk k t _ _ ks, xs => TExpr.cols O ks (if (k = 4 ∨ k = 28) ∧ O t = true ∧ Lib.containsS xs t = false then xs ++ [t] else xs)
def TExpr.cols (O : ByteArray → Bool) : List TExpr → List ByteArray → List ByteArray
  | [], xs => xs
  | x :: r, xs => TExpr.cols O r (TExpr.col O x xs)
end
theorem TExpr.cols_take (O : ByteArray → Bool) : ∀ (l : List TExpr) (k : Nat) (h : k < l.length) (xs : List ByteArray), TExpr.cols O (l.take (k + 1)) xs = l[k].col O (TExpr.cols O (l.take k) xs)
  | x :: r, 0, _, xs => by simp [TExpr.cols]
  | x :: r, k + 1, h, xs => by
    have := TExpr.cols_take O r k (by simpa using h) (x.col O xs)
    simp only [List.take_succ_cons, TExpr.cols, List.getElem_cons_succ, this]
mutual
theorem TExpr.col_len (O : ByteArray → Bool) : ∀ (t : TExpr) (xs : List ByteArray), (t.col O xs).length ≤ xs.length + t.cnt
  | .mk k t _ _ ks, xs => by
    have := TExpr.cols_len O ks (if (k = 4 ∨ k = 28) ∧ O t = true ∧ Lib.containsS xs t = false then xs ++ [t] else xs)
    simp only [TExpr.col, TExpr.cnt]
    by_cases q : (k = 4 ∨ k = 28) ∧ O t = true ∧ Lib.containsS xs t = false
    · rw [if_pos q] at this ⊢
      rw [List.length_append] at this
      simp only [List.length_cons, List.length_nil] at this
      omega
    · rw [if_neg q] at this ⊢
      omega
theorem TExpr.cols_len (O : ByteArray → Bool) : ∀ (l : List TExpr) (xs : List ByteArray), (TExpr.cols O l xs).length ≤ xs.length + TExpr.cnts l
  | [], xs => by simp [TExpr.cols]
  | x :: r, xs => by
    have h1 := TExpr.col_len O x xs
    have h2 := TExpr.cols_len O r (x.col O xs)
    simp only [TExpr.cols, TExpr.cnts]
    omega
end
/-- Does a name mean nothing outside of procedures? -/
def outO (R : List TRecordType) (G : List ByteArray) (P : List TProcedure) (x : ByteArray) : Bool := decide ((outP R G P x).1 = 0)
def ColPost (wB w : World) (xs : List ByteArray) (e : Ending) (w' : World) : Prop := ∃ v', e = .returned v' ∧ OwnS wB w' v' xs ∧ Bel wB w' ∧ Kept w w'
abbrev ColC (f : FuncId) (ok : TExpr → Bool) (t : TExpr) : Prop := ∀ (R : List TRecordType) (G : List ByteArray) (P : List TProcedure) (S : Nat → Prop) (wB w : World) (us vs : List Value) (v : Value) (xs : List ByteArray),
  Sp wB → Dat.HoldVals wB S (TUnit.mk R G P).D us → Dat.HoldVals wB S t.D vs → Bel wB w → OwnS wB w v xs → xs.length + t.cnt ≤ 4000000 → ok t = true →
  Calls Tryd.prog f #[.agg us.toArray, .agg vs.toArray, v] w (ColPost wB w (t.col (outO R G P) xs))
theorem leaf_kids {k n li : Int} {t : ByteArray} {ks : List TExpr} (h : (TExpr.mk k t n li ks).vld = true) (hk : k = 4 ∨ k = 28) : ks = [] := by
  rw [vldE_mk] at h
  simp only [Bool.and_eq_true] at h
  have h1 := h.1.1.1
  unfold hdE at h1
  rw [show lohiE k = (0, 0) by rcases hk with rfl | rfl <;> (unfold lohiE; simp)] at h1
  simp only [Bool.and_eq_true, decide_eq_true_eq] at h1
  exact List.eq_nil_of_length_eq_zero (by omega)
theorem vld_kidE {k n li : Int} {t : ByteArray} {ks : List TExpr} (h : (TExpr.mk k t n li ks).vld = true) {i : Nat} (hi : i < ks.length) : ks[i].vld = true := by
  cases hq : ks[i].vld
  · rw [vldE_mk, TExpr.vlds_at hi hq, Bool.and_false] at h; cases h
  · rfl
end Go.Proofs.YtjodcciloflgbaaDoor
