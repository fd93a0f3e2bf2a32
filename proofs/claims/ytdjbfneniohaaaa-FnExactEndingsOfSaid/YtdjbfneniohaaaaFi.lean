/- A slice of the call's own that is filled row by row. -/
import Derived.Test.YtdjbfneniohaaaaD
import Derived.Laws.IdiomCopy
import Derived.Laws.MakeOwn
namespace Go.Proofs.Ytdjbfneniohaaaa
set_option linter.unusedVariables false
set_option linter.unusedSimpArgs false
set_option maxRecDepth 100000
open Go.RowKit

def setAll (cur : Array Value) : Nat → List Value → Array Value
  | _, [] => cur
  | o, v :: r => setAll (cur.setIfInBounds o v) (o + 1) r
theorem setAll_size : ∀ (vs : List Value) (o : Nat) (cur : Array Value), (setAll cur o vs).size = cur.size
  | [], _, _ => rfl
  | v :: r, o, cur => by rw [setAll, setAll_size r]; simp
theorem setAll_out : ∀ (vs : List Value) (o : Nat) (cur : Array Value) (i : Nat), i < o ∨ o + vs.length ≤ i → (setAll cur o vs)[i]? = cur[i]?
  | [], _, _, _, _ => rfl
  | v :: r, o, cur, i, h => by
    rw [setAll, setAll_out r (o + 1) _ i (by simp at h; omega), Array.getElem?_setIfInBounds_ne (by simp at h; omega)]
theorem setAll_in : ∀ (vs : List Value) (o : Nat) (cur : Array Value) (l : Nat), l < vs.length → o + vs.length ≤ cur.size → (setAll cur o vs)[o + l]? = vs[l]?
  | [], _, _, _, h, _ => absurd h (by simp)
  | v :: r, o, cur, 0, _, hs => by
    rw [setAll, setAll_out r (o + 1) _ (o + 0) (by omega)]
    simp at hs
    simp [Array.getElem?_setIfInBounds]
    omega
  | v :: r, o, cur, l + 1, h, hs => by
    rw [setAll, show o + (l + 1) = (o + 1) + l by omega, setAll_in r (o + 1) _ l (by simpa using h) (by simp at hs ⊢; omega)]
    simp
theorem heap_setCells {g : Nat} {E : TypeId} {f : Nat × Nat} : ∀ (vs : List Value) (o : Nat) (w : World) (cur : Array Value), w.heap[g]? = some (.cells cur E f) → (w.setCells g o vs).heap[g]? = some (.cells (setAll cur o vs) E f)
  | [], _, _, _, h => h
  | v :: r, o, w, cur, h => by
    rw [World.setCells, setAll]
    refine heap_setCells r (o + 1) _ _ ?_
    simp [World.setCell, Array.getElem?_modify, h]
theorem heap_setCells_far {g b : Nat} (hb : b ≠ g) : ∀ (vs : List Value) (o : Nat) (w : World), (w.setCells g o vs).heap[b]? = w.heap[b]?
  | [], _, _ => rfl
  | v :: r, o, w => by
    rw [World.setCells, heap_setCells_far hb r (o + 1)]
    exact Below.heap_setCell w ⟨g, o, none⟩ v b hb
theorem size_setCells {g : Nat} : ∀ (vs : List Value) (o : Nat) (w : World), (w.setCells g o vs).heap.size = w.heap.size
  | [], _, _ => rfl
  | v :: r, o, w => by
    rw [World.setCells, size_setCells r (o + 1)]
    simp
theorem Bel.setCells {a : World} {g : Nat} (hg : a.heap.size ≤ g) : ∀ (vs : List Value) (o : Nat) (b : World), Bel a b → Bel a (b.setCells g o vs)
  | [], _, _, h => h
  | v :: r, o, b, h => by
    rw [World.setCells]
    exact Bel.setCells hg r (o + 1) _ (h.set (p := ⟨g, o, none⟩) hg v)

/-- The blocks of S are as they were. -/
structure Off (S : Nat → Prop) (w w' : World) : Prop where
  size : w.heap.size ≤ w'.heap.size
  cell : ∀ b o, S b → b < w.heap.size → w'.cell? ⟨b, o, none⟩ = w.cell? ⟨b, o, none⟩
namespace Off
variable {S : Nat → Prop} {a b c : World}
theorem refl (S : Nat → Prop) (w : World) : Off S w w := ⟨Nat.le_refl _, fun _ _ _ _ => rfl⟩
theorem trans (h : Off S a b) (k : Off S b c) : Off S a c := ⟨Nat.le_trans h.size k.size, fun i o hS hi => (k.cell i o hS (Nat.lt_of_lt_of_le hi h.size)).trans (h.cell i o hS hi)⟩
theorem of_bel (S : Nat → Prop) (h : Bel a b) : Off S a b := ⟨Bel.size h, fun i o _ hi => h.box i hi o⟩
theorem bel (h : Off S a b) (k : Bel b c) : Off S a c := h.trans (of_bel S k)
theorem alloc (h : Off S a b) (o : Obj) : Off S a (b.alloc o) := h.bel (Bel.alloc (Bel.refl _) o)
theorem drew (h : Off S a b) : Off S a b.drew := h.bel (Bel.drew (Bel.refl _))
theorem drewN (h : Off S a b) (n : Nat) : Off S a (b.drewN n) := h.bel (Bel.drewN (Bel.refl _) n)
theorem set (h : Off S a b) {p : Addr} (hp : ¬ S p.block) (v : Value) : Off S a (b.setCell p v) :=
  h.trans ⟨by simp, fun i o hS hi => World.cell?_setCell_other b p ⟨i, o, none⟩ v (fun e => hp (by rw [e]; exact hS))⟩
end Off
/-- The blocks of S are as they were: the steps that lead there, one by one. -/
theorem ofl {S : Nat → Prop} {a b : World} (h : Off S a b := by repeat' (first | with_reducible exact Off.refl _ _ | with_reducible refine Off.set ?_ ?_ _ | with_reducible refine Off.alloc ?_ _ | with_reducible refine Off.drew ?_ | with_reducible refine Off.drewN ?_ _ | with_reducible refine Off.bel ?_ (by with_reducible assumption) | (simp; done) | (simp; omega) | omega)) : Off S a b := h
theorem Row.off {S : Nat → Prop} {w w' : World} (h : Off S w w') {k : Nat} {A : Option Addr} {c : Nat} {xs : List (List Dat)} (hh : Row w S k A c xs) : Row w' S k A c xs := Row.keep h.size h.cell (fun _ h => h) hh
theorem Dat.HoldVals.off {S : Nat → Prop} {w w' : World} (h : Off S w w') {ds : List Dat} {vs : List Value} (hh : Dat.HoldVals w S ds vs) : Dat.HoldVals w' S ds vs := Dat.HoldVals.keep h.size h.cell (fun _ h => h) ds vs hh

/-- Block g is a row of n times k cells of element type E; its first rows hold ds, whose slices lie in S. -/
def Fill (w : World) (g : Nat) (E : TypeId) (k n : Nat) (S : Nat → Prop) (ds : List (List Dat)) : Prop :=
  ds.length ≤ n ∧ ∃ cur, w.heap[g]? = some (.cells cur E (0, 0)) ∧ cur.size = n * k ∧ ∀ (j : Nat) (h : j < ds.length), ∃ vs, Dat.HoldVals w S ds[j] vs ∧ vs.length = k ∧ ∀ l, l < k → cur[j * k + l]? = vs[l]?
section
variable {w w' : World} {g : Nat} {E : TypeId} {k n : Nat} {S : Nat → Prop} {ds : List (List Dat)}
theorem Fill.start (w : World) (E : TypeId) (k n : Nat) (S : Nat → Prop) {cur : Array Value} (h : cur.size = n * k) : Fill (w.alloc (.cells cur E)) w.heap.size E k n S [] :=
  ⟨by simp, cur, heap_alloc_new w _, h, fun j hj => absurd hj (by simp)⟩
theorem Fill.lt (h : Fill w g E k n S ds) : g < w.heap.size := by
  obtain ⟨_, cur, hc, _⟩ := h
  rcases Nat.lt_or_ge g w.heap.size with h' | h'
  · exact h'
  · rw [Array.getElem?_eq_none h'] at hc; cases hc
theorem Fill.bel (h : Fill w g E k n S ds) (hb : Bel w w') : Fill w' g E k n S ds := by
  have hl := h.lt
  obtain ⟨h0, cur, hc, hs, hj⟩ := h
  refine ⟨h0, cur, (Below.block hb g hl).trans hc, hs, fun j hjl => ?_⟩
  obtain ⟨vs, g1, g2⟩ := hj j hjl
  exact ⟨vs, g1.bel hb, g2⟩
theorem Fill.cell (h : Fill w g E k n S ds) {i : Nat} (hi : i < n * k) : ∃ u, w.cell? ⟨g, i, none⟩ = some u := by
  obtain ⟨h0, cur, hc, hs, hj⟩ := h
  refine ⟨cur[i]'(by omega), ?_⟩
  rw [cell_of_row w g i cur E (0, 0) hc]
  exact Array.getElem?_eq_getElem (by omega)
theorem Fill.free (h : Fill w g E k n S ds) (i : Nat) : w.frozen? ⟨g, i, none⟩ = false := by
  obtain ⟨h0, cur, hc, hs, hj⟩ := h
  simp [World.frozen?, hc]
theorem Fill.put (h : Fill w g E k n S ds) (hn : ds.length < n) (hS : ∀ b, S b → b ≠ g) {d : List Dat} {vs : List Value} (hv : Dat.HoldVals w S d vs) (hk : vs.length = k) : Fill (w.setCells g (ds.length * k) vs) g E k n S (ds ++ [d]) := by
  obtain ⟨h0, cur, hc, hs, hj⟩ := h
  have hle : ds.length * k + k ≤ n * k := by rw [← Nat.succ_mul]; exact Nat.mul_le_mul_right k hn
  have keep : ∀ (d : List Dat) (vs' : List Value), Dat.HoldVals w S d vs' → Dat.HoldVals (w.setCells g (ds.length * k) vs) S d vs' := fun d vs' hd =>
    Dat.HoldVals.keep (by rw [size_setCells]; exact Nat.le_refl _) (fun b o hb _ => World.cell?_of_block (heap_setCells_far (hS b hb) vs _ w)) (fun _ h => h) d vs' hd
  refine ⟨by simp; omega, setAll cur (ds.length * k) vs, heap_setCells vs _ w cur hc, by rw [setAll_size]; exact hs, fun j hjl => ?_⟩
  by_cases e : j < ds.length
  · rw [List.getElem_append_left e]
    obtain ⟨vs', g1, g2, g3⟩ := hj j e
    refine ⟨vs', keep _ _ g1, g2, fun l hl => ?_⟩
    have : j * k + k ≤ ds.length * k := by rw [← Nat.succ_mul]; exact Nat.mul_le_mul_right k e
    rw [setAll_out _ _ _ _ (by omega)]
    exact g3 l hl
  · obtain rfl : j = ds.length := by simp at hjl; omega
    refine ⟨vs, by simpa using keep _ _ hv, hk, fun l hl => ?_⟩
    exact setAll_in vs _ cur l (by omega) (by omega)
theorem Fill.row (h : Fill w g E k n S ds) (hn : ds.length = n) (hm : n ≤ maxLen) {S' : Nat → Prop} (hS : ∀ b, S b → S' b) (hg : S' g) : Row w S' k (some ⟨g, 0, none⟩) n ds := by
  have hlt := h.lt
  obtain ⟨h0, cur, hc, hs, hj⟩ := h
  refine ⟨h0, hm, fun _ => ⟨g, 0, rfl, hg, hlt, Dat.HoldRows.mk fun j hjl => ?_⟩⟩
  obtain ⟨vs, g1, g2, g3⟩ := hj j hjl
  refine ⟨Dat.HoldCells.of_vals (g1.wide hS) fun l hl => ?_, by rw [← g1.length]; exact g2⟩
  rw [cell_of_row w g _ cur E (0, 0) hc, ← g3 l (by omega)]
  congr 1
  omega
end

theorem take_snoc {α : Type} {l : List α} {j : Nat} (h : j < l.length) : l.take (j + 1) = l.take j ++ [l[j]] := by
  rw [List.take_succ_eq_append_getElem h]
theorem Fill.snoc {α : Type} {D : α → List Dat} {l : List α} {w : World} {g : Nat} {E : TypeId} {k n j : Nat} {S S1 : Nat → Prop} (h : Fill w g E k n S ((l.map D).take j)) (hj : j < l.length) (hn : l.length = n) (hS : ∀ b, S b → b ≠ g)
    {vs : List Value} (hv : Dat.HoldVals w S1 (D l[j]) vs) (h1 : ∀ b, S1 b → S b) (hk : vs.length = k) : Fill (w.setCells g (j * k) vs) g E k n S ((l.map D).take (j + 1)) := by
  have hlen : ((l.map D).take j).length = j := by simp; omega
  have := h.put (by rw [hlen]; omega) hS (hv.wide h1) hk
  rw [hlen] at this
  rw [take_snoc (by simpa using hj), List.getElem_map]
  exact this
theorem Fill.done {α : Type} {D : α → List Dat} {l : List α} {w : World} {g : Nat} {E : TypeId} {k n j : Nat} {S S' : Nat → Prop} (h : Fill w g E k n S ((l.map D).take j)) (hj : l.length ≤ j) (hn : l.length = n) (hm : n ≤ maxLen) (hS : ∀ b, S b → S' b) (hg : S' g) :
    Row w S' k (some ⟨g, 0, none⟩) n (l.map D) := by
  rw [List.take_of_length_le (by simpa using hj)] at h
  exact h.row (by simpa using hn) hm hS hg
theorem Fill.snoc1 {α : Type} {D : α → List Dat} {l : List α} {w : World} {g : Nat} {E : TypeId} {n j : Nat} {S S1 : Nat → Prop} {u0 : Value} (h : Fill w g E 1 n S ((l.map D).take j)) (hj : j < l.length) (hn : l.length = n) (hS : ∀ b, S b → b ≠ g)
    (hv : Dat.HoldVals w S1 (D l[j]) [u0]) (h1 : ∀ b, S1 b → S b) : Fill (w.setCell ⟨g, j, none⟩ u0) g E 1 n S ((l.map D).take (j + 1)) := by
  have := Fill.snoc h hj hn hS hv h1 rfl
  rw [Nat.mul_one] at this
  exact this
theorem Fill.snoc2 {α : Type} {D : α → List Dat} {l : List α} {w : World} {g : Nat} {E : TypeId} {n j : Nat} {S S1 : Nat → Prop} {u0 u1 : Value} (h : Fill w g E 2 n S ((l.map D).take j)) (hj : j < l.length) (hn : l.length = n) (hS : ∀ b, S b → b ≠ g)
    (hv : Dat.HoldVals w S1 (D l[j]) [u0, u1]) (h1 : ∀ b, S1 b → S b) : Fill ((w.setCell ⟨g, j * 2, none⟩ u0).setCell ⟨g, j * 2 + 1, none⟩ u1) g E 2 n S ((l.map D).take (j + 1)) := by
  have := Fill.snoc h hj hn hS hv h1 rfl
  exact this
theorem Fill.snoc3 {α : Type} {D : α → List Dat} {l : List α} {w : World} {g : Nat} {E : TypeId} {n j : Nat} {S S1 : Nat → Prop} {u0 u1 u2 : Value} (h : Fill w g E 3 n S ((l.map D).take j)) (hj : j < l.length) (hn : l.length = n) (hS : ∀ b, S b → b ≠ g)
    (hv : Dat.HoldVals w S1 (D l[j]) [u0, u1, u2]) (h1 : ∀ b, S1 b → S b) : Fill (((w.setCell ⟨g, j * 3, none⟩ u0).setCell ⟨g, j * 3 + 1, none⟩ u1).setCell ⟨g, j * 3 + 2, none⟩ u2) g E 3 n S ((l.map D).take (j + 1)) := by
  have := Fill.snoc h hj hn hS hv h1 rfl
  exact this
theorem Fill.snoc4 {α : Type} {D : α → List Dat} {l : List α} {w : World} {g : Nat} {E : TypeId} {n j : Nat} {S S1 : Nat → Prop} {u0 u1 u2 u3 : Value} (h : Fill w g E 4 n S ((l.map D).take j)) (hj : j < l.length) (hn : l.length = n) (hS : ∀ b, S b → b ≠ g)
    (hv : Dat.HoldVals w S1 (D l[j]) [u0, u1, u2, u3]) (h1 : ∀ b, S1 b → S b) : Fill ((((w.setCell ⟨g, j * 4, none⟩ u0).setCell ⟨g, j * 4 + 1, none⟩ u1).setCell ⟨g, j * 4 + 2, none⟩ u2).setCell ⟨g, j * 4 + 3, none⟩ u3) g E 4 n S ((l.map D).take (j + 1)) := by
  have := Fill.snoc h hj hn hS hv h1 rfl
  exact this
theorem Fill.snoc5 {α : Type} {D : α → List Dat} {l : List α} {w : World} {g : Nat} {E : TypeId} {n j : Nat} {S S1 : Nat → Prop} {u0 u1 u2 u3 u4 : Value} (h : Fill w g E 5 n S ((l.map D).take j)) (hj : j < l.length) (hn : l.length = n) (hS : ∀ b, S b → b ≠ g)
    (hv : Dat.HoldVals w S1 (D l[j]) [u0, u1, u2, u3, u4]) (h1 : ∀ b, S1 b → S b) : Fill (((((w.setCell ⟨g, j * 5, none⟩ u0).setCell ⟨g, j * 5 + 1, none⟩ u1).setCell ⟨g, j * 5 + 2, none⟩ u2).setCell ⟨g, j * 5 + 3, none⟩ u3).setCell ⟨g, j * 5 + 4, none⟩ u4) g E 5 n S ((l.map D).take (j + 1)) := by
  have := Fill.snoc h hj hn hS hv h1 rfl
  exact this
theorem Fill.snoc6 {α : Type} {D : α → List Dat} {l : List α} {w : World} {g : Nat} {E : TypeId} {n j : Nat} {S S1 : Nat → Prop} {u0 u1 u2 u3 u4 u5 : Value} (h : Fill w g E 6 n S ((l.map D).take j)) (hj : j < l.length) (hn : l.length = n) (hS : ∀ b, S b → b ≠ g)
    (hv : Dat.HoldVals w S1 (D l[j]) [u0, u1, u2, u3, u4, u5]) (h1 : ∀ b, S1 b → S b) : Fill ((((((w.setCell ⟨g, j * 6, none⟩ u0).setCell ⟨g, j * 6 + 1, none⟩ u1).setCell ⟨g, j * 6 + 2, none⟩ u2).setCell ⟨g, j * 6 + 3, none⟩ u3).setCell ⟨g, j * 6 + 4, none⟩ u4).setCell ⟨g, j * 6 + 5, none⟩ u5) g E 6 n S ((l.map D).take (j + 1)) := by
  have := Fill.snoc h hj hn hS hv h1 rfl
  exact this
theorem Fill.snoc7 {α : Type} {D : α → List Dat} {l : List α} {w : World} {g : Nat} {E : TypeId} {n j : Nat} {S S1 : Nat → Prop} {u0 u1 u2 u3 u4 u5 u6 : Value} (h : Fill w g E 7 n S ((l.map D).take j)) (hj : j < l.length) (hn : l.length = n) (hS : ∀ b, S b → b ≠ g)
    (hv : Dat.HoldVals w S1 (D l[j]) [u0, u1, u2, u3, u4, u5, u6]) (h1 : ∀ b, S1 b → S b) : Fill (((((((w.setCell ⟨g, j * 7, none⟩ u0).setCell ⟨g, j * 7 + 1, none⟩ u1).setCell ⟨g, j * 7 + 2, none⟩ u2).setCell ⟨g, j * 7 + 3, none⟩ u3).setCell ⟨g, j * 7 + 4, none⟩ u4).setCell ⟨g, j * 7 + 5, none⟩ u5).setCell ⟨g, j * 7 + 6, none⟩ u6) g E 7 n S ((l.map D).take (j + 1)) := by
  have := Fill.snoc h hj hn hS hv h1 rfl
  exact this
theorem Fill.snoc8 {α : Type} {D : α → List Dat} {l : List α} {w : World} {g : Nat} {E : TypeId} {n j : Nat} {S S1 : Nat → Prop} {u0 u1 u2 u3 u4 u5 u6 u7 : Value} (h : Fill w g E 8 n S ((l.map D).take j)) (hj : j < l.length) (hn : l.length = n) (hS : ∀ b, S b → b ≠ g)
    (hv : Dat.HoldVals w S1 (D l[j]) [u0, u1, u2, u3, u4, u5, u6, u7]) (h1 : ∀ b, S1 b → S b) : Fill ((((((((w.setCell ⟨g, j * 8, none⟩ u0).setCell ⟨g, j * 8 + 1, none⟩ u1).setCell ⟨g, j * 8 + 2, none⟩ u2).setCell ⟨g, j * 8 + 3, none⟩ u3).setCell ⟨g, j * 8 + 4, none⟩ u4).setCell ⟨g, j * 8 + 5, none⟩ u5).setCell ⟨g, j * 8 + 6, none⟩ u6).setCell ⟨g, j * 8 + 7, none⟩ u7) g E 8 n S ((l.map D).take (j + 1)) := by
  have := Fill.snoc h hj hn hS hv h1 rfl
  exact this
theorem Fill.snoc9 {α : Type} {D : α → List Dat} {l : List α} {w : World} {g : Nat} {E : TypeId} {n j : Nat} {S S1 : Nat → Prop} {u0 u1 u2 u3 u4 u5 u6 u7 u8 : Value} (h : Fill w g E 9 n S ((l.map D).take j)) (hj : j < l.length) (hn : l.length = n) (hS : ∀ b, S b → b ≠ g)
    (hv : Dat.HoldVals w S1 (D l[j]) [u0, u1, u2, u3, u4, u5, u6, u7, u8]) (h1 : ∀ b, S1 b → S b) : Fill (((((((((w.setCell ⟨g, j * 9, none⟩ u0).setCell ⟨g, j * 9 + 1, none⟩ u1).setCell ⟨g, j * 9 + 2, none⟩ u2).setCell ⟨g, j * 9 + 3, none⟩ u3).setCell ⟨g, j * 9 + 4, none⟩ u4).setCell ⟨g, j * 9 + 5, none⟩ u5).setCell ⟨g, j * 9 + 6, none⟩ u6).setCell ⟨g, j * 9 + 7, none⟩ u7).setCell ⟨g, j * 9 + 8, none⟩ u8) g E 9 n S ((l.map D).take (j + 1)) := by
  have := Fill.snoc h hj hn hS hv h1 rfl
  exact this
/-- make of n elements, n a variable: the new row's cells. -/
theorem make_rows {P : Program} {t e : TypeId} {k : Nat} (n : Nat) (hn : n ≤ 1048576) (ht : P.underlying t = some (.slice e)) (hinfo : (P.info? e).map (fun i => (i.zero.isSome, i.size, decide (i.bytes ≤ 1000))) = some (true, k, true)) :
    ∃ cur : Array Value, cur.size = n * k ∧ ∀ w, (Instr.makeSlice t (.int .i64 (n : Int)) (.int .i64 (n : Int))).run P w = .ok (.slice (some ⟨w.heap.size, 0, none⟩) n n) (w.alloc (.cells cur e)) := by
  obtain ⟨i, hi, hzz⟩ := Option.map_eq_some_iff.1 hinfo
  simp only [Prod.mk.injEq] at hzz
  obtain ⟨h1, h2, h3⟩ := hzz
  obtain ⟨z, hz⟩ := Option.isSome_iff_exists.1 h1
  refine ⟨madeCells z.cells (n * k), size_madeCells _ _, fun w => ?_⟩
  have hbn : i.bytes * n ≤ 1000 * 1048576 := Nat.mul_le_mul (by simpa using h3) hn
  have hb' : (i.bytes : Int) * (n : Int) ≤ 281474976710656 := by
    rw [← Int.natCast_mul]; omega
  have hr := run_make (P := P) w t e i z ht hi hz .i64 .i64 n n (by omega) (Int.le_refl _) hb' (by omega)
  rw [h2] at hr
  simpa using hr
/-- The datum comes back as a struct, in new memory. -/
def MadeV (w : World) (ds : List Dat) (e : Ending) (w' : World) : Prop :=
  ∃ vs, e = .returned (.agg vs.toArray) ∧ Dat.HoldVals w' (fun b => w.heap.size ≤ b) ds vs ∧ Bel w w'
/-- The rows come back as a slice, in new memory. -/
def MadeR (w : World) (k : Nat) (xs : List (List Dat)) (e : Ending) (w' : World) : Prop :=
  ∃ A c, e = .returned (.slice A xs.length c) ∧ Row w' (fun b => w.heap.size ≤ b) k A c xs ∧ Bel w w'
end Go.Proofs.Ytdjbfneniohaaaa
