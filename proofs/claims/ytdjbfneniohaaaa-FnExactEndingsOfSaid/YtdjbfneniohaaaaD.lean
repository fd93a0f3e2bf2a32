/- Data that lies in memory: what a row of cells holds, in blocks of a set S; how it is kept; how it is read off an argument. -/
import Derived.Test.YtdjbfneniohaaaaB
import Derived.Deep.Slices
namespace Go.Proofs.Ytdjbfneniohaaaa
set_option linter.unusedVariables false
set_option linter.unusedSimpArgs false
set_option maxRecDepth 100000
open Go.ChangeShapes Go.WideShapes Go.RowKit Go.Deep

theorem cell_in' {w : World} {a : Addr} {v : Value} (h : w.cell? a = some v) : a.spot = none ∧ a.block < w.heap.size := by
  unfold World.cell? at h
  split at h
  · rename_i c _ _ hb
    refine ⟨?_, ?_⟩
    · split at h
      · cases h
      · rename_i hs; cases hsp : a.spot with
        | none => rfl
        | some x => rw [hsp] at hs; simp at hs
    · rcases Nat.lt_or_ge a.block w.heap.size with h' | h'
      · exact h'
      · rw [Array.getElem?_eq_none h'] at hb; cases hb
  · cases h

/-- One cell's content: a number, a text, a truth value, or a slice of rows of k cells. -/
inductive Dat where
  | int (n : Int)
  | str (s : ByteArray)
  | bool (b : Bool)
  | row (k : Nat) (xs : List (List Dat))

mutual
/-- The value v holds d in w; every slice within it lies in a block of S. -/
def Dat.Holds (w : World) (S : Nat → Prop) : Dat → Value → Prop
  | .int n, v => v = .int .i64 n ∧ InI n
  | .str s, v => v = .string s ∧ s.size ≤ maxLen
  | .bool b, v => v = .bool b
  | .row k xs, v => ∃ A c, v = .slice A xs.length c ∧ xs.length ≤ c ∧ c ≤ maxLen ∧ (xs ≠ [] → ∃ b o, A = some ⟨b, o, none⟩ ∧ S b ∧ b < w.heap.size ∧ Dat.HoldRows w S k b o xs)
def Dat.HoldRows (w : World) (S : Nat → Prop) (k b : Nat) : Nat → List (List Dat) → Prop
  | _, [] => True
  | o, ds :: r => Dat.HoldCells w S b o ds ∧ ds.length = k ∧ Dat.HoldRows w S k b (o + k) r
def Dat.HoldCells (w : World) (S : Nat → Prop) (b : Nat) : Nat → List Dat → Prop
  | _, [] => True
  | o, d :: r => (∃ u, w.cell? ⟨b, o, none⟩ = some u ∧ Dat.Holds w S d u) ∧ Dat.HoldCells w S b (o + 1) r
end

/-- A list of values holds a list of data, place by place. -/
def Dat.HoldVals (w : World) (S : Nat → Prop) : List Dat → List Value → Prop
  | [], [] => True
  | d :: r, v :: vs => Dat.Holds w S d v ∧ Dat.HoldVals w S r vs
  | _, _ => False

/-- A slice's reading: its address and capacity. -/
def Row (w : World) (S : Nat → Prop) (k : Nat) (A : Option Addr) (c : Nat) (xs : List (List Dat)) : Prop :=
  xs.length ≤ c ∧ c ≤ maxLen ∧ (xs ≠ [] → ∃ b o, A = some ⟨b, o, none⟩ ∧ S b ∧ b < w.heap.size ∧ Dat.HoldRows w S k b o xs)

section
variable {w w' : World} {S S' : Nat → Prop}

theorem Dat.holds_row {k : Nat} {xs : List (List Dat)} {v : Value} : (Dat.row k xs).Holds w S v ↔ ∃ A c, v = .slice A xs.length c ∧ Row w S k A c xs := by
  simp only [Dat.Holds, Row]
theorem Dat.holds_int {n : Int} {v : Value} : (Dat.int n).Holds w S v ↔ v = .int .i64 n ∧ InI n := by simp only [Dat.Holds]
theorem Dat.holds_str {s : ByteArray} {v : Value} : (Dat.str s).Holds w S v ↔ v = .string s ∧ s.size ≤ maxLen := by simp only [Dat.Holds]
theorem Dat.holds_bool {b : Bool} {v : Value} : (Dat.bool b).Holds w S v ↔ v = .bool b := by simp only [Dat.Holds]

mutual
theorem Dat.Holds.keep (hs : w.heap.size ≤ w'.heap.size) (hw : ∀ b o, S b → b < w.heap.size → w'.cell? ⟨b, o, none⟩ = w.cell? ⟨b, o, none⟩) (h1 : ∀ b, S b → S' b) :
    ∀ (d : Dat) (v : Value), d.Holds w S v → d.Holds w' S' v
  | .int n, v, h => by simpa only [Dat.Holds] using h
  | .str s, v, h => by simpa only [Dat.Holds] using h
  | .bool b, v, h => by simpa only [Dat.Holds] using h
  | .row k xs, v, h => by
    simp only [Dat.Holds] at h ⊢
    obtain ⟨A, c, rfl, hl, hc, hx⟩ := h
    refine ⟨A, c, rfl, hl, hc, fun hne => ?_⟩
    obtain ⟨b, o, rfl, g1, g2, hr⟩ := hx hne
    exact ⟨b, o, rfl, h1 b g1, by omega, Dat.HoldRows.keep hs hw h1 b g1 g2 xs o hr⟩
theorem Dat.HoldRows.keep (hs : w.heap.size ≤ w'.heap.size) (hw : ∀ b o, S b → b < w.heap.size → w'.cell? ⟨b, o, none⟩ = w.cell? ⟨b, o, none⟩) (h1 : ∀ b, S b → S' b) {k : Nat} (b : Nat) (hb1 : S b) (hb2 : b < w.heap.size) :
    ∀ (xs : List (List Dat)) (o : Nat), Dat.HoldRows w S k b o xs → Dat.HoldRows w' S' k b o xs
  | [], o, h => by simp only [Dat.HoldRows]
  | ds :: r, o, h => by
    simp only [Dat.HoldRows] at h ⊢
    exact ⟨Dat.HoldCells.keep hs hw h1 b hb1 hb2 ds o h.1, h.2.1, Dat.HoldRows.keep hs hw h1 b hb1 hb2 r _ h.2.2⟩
theorem Dat.HoldCells.keep (hs : w.heap.size ≤ w'.heap.size) (hw : ∀ b o, S b → b < w.heap.size → w'.cell? ⟨b, o, none⟩ = w.cell? ⟨b, o, none⟩) (h1 : ∀ b, S b → S' b) (b : Nat) (hb1 : S b) (hb2 : b < w.heap.size) :
    ∀ (ds : List Dat) (o : Nat), Dat.HoldCells w S b o ds → Dat.HoldCells w' S' b o ds
  | [], o, h => by simp only [Dat.HoldCells]
  | d :: r, o, h => by
    simp only [Dat.HoldCells] at h ⊢
    obtain ⟨⟨u, hu, hd⟩, hr⟩ := h
    exact ⟨⟨u, (hw b o hb1 hb2).trans hu, Dat.Holds.keep hs hw h1 d u hd⟩, Dat.HoldCells.keep hs hw h1 b hb1 hb2 r _ hr⟩
end
theorem Dat.HoldVals.keep (hs : w.heap.size ≤ w'.heap.size) (hw : ∀ b o, S b → b < w.heap.size → w'.cell? ⟨b, o, none⟩ = w.cell? ⟨b, o, none⟩) (h1 : ∀ b, S b → S' b) :
    ∀ (ds : List Dat) (vs : List Value), Dat.HoldVals w S ds vs → Dat.HoldVals w' S' ds vs
  | [], [], _ => trivial
  | d :: r, v :: vs, h => ⟨Dat.Holds.keep hs hw h1 d v h.1, Dat.HoldVals.keep hs hw h1 r vs h.2⟩
  | [], _ :: _, h => h.elim
  | _ :: _, [], h => h.elim
theorem Row.keep (hs : w.heap.size ≤ w'.heap.size) (hw : ∀ b o, S b → b < w.heap.size → w'.cell? ⟨b, o, none⟩ = w.cell? ⟨b, o, none⟩) (h1 : ∀ b, S b → S' b) {k : Nat} {A : Option Addr} {c : Nat} {xs : List (List Dat)}
    (h : Row w S k A c xs) : Row w' S' k A c xs := by
  obtain ⟨hl, hc, hx⟩ := h
  refine ⟨hl, hc, fun hne => ?_⟩
  obtain ⟨b, o, rfl, g1, g2, hr⟩ := hx hne
  exact ⟨b, o, rfl, h1 b g1, by omega, Dat.HoldRows.keep hs hw h1 b g1 g2 xs o hr⟩

theorem Dat.Holds.bel (hb : Bel w w') {d : Dat} {v : Value} (hh : d.Holds w S v) : d.Holds w' S v :=
  Dat.Holds.keep hb.size (fun b o _ h2 => hb.box b h2 o) (fun _ h => h) d v hh
theorem Dat.HoldVals.bel (hb : Bel w w') {ds : List Dat} {vs : List Value} (hh : Dat.HoldVals w S ds vs) : Dat.HoldVals w' S ds vs :=
  Dat.HoldVals.keep hb.size (fun b o _ h2 => hb.box b h2 o) (fun _ h => h) ds vs hh
theorem Row.bel (hb : Bel w w') {k : Nat} {A : Option Addr} {c : Nat} {xs : List (List Dat)} (hh : Row w S k A c xs) : Row w' S k A c xs :=
  Row.keep hb.size (fun b o _ h2 => hb.box b h2 o) (fun _ h => h) hh
theorem Row.wide (h1 : ∀ b, S b → S' b) {k : Nat} {A : Option Addr} {c : Nat} {xs : List (List Dat)} (hh : Row w S k A c xs) : Row w S' k A c xs :=
  Row.keep (Nat.le_refl _) (fun _ _ _ _ => rfl) h1 hh
theorem Dat.HoldVals.wide (h1 : ∀ b, S b → S' b) {ds : List Dat} {vs : List Value} (hh : Dat.HoldVals w S ds vs) : Dat.HoldVals w S' ds vs :=
  Dat.HoldVals.keep (Nat.le_refl _) (fun _ _ _ _ => rfl) h1 ds vs hh

theorem Dat.HoldRows.get {k b : Nat} : ∀ {xs : List (List Dat)} {o : Nat}, Dat.HoldRows w S k b o xs → ∀ (i : Nat) (hi' : i < xs.length), Dat.HoldCells w S b (o + i * k) xs[i] ∧ xs[i].length = k
  | [], _, _, i, h => absurd h (by simp)
  | ds :: r, o, h, 0, _ => by
    simp only [Dat.HoldRows] at h
    simpa using ⟨h.1, h.2.1⟩
  | ds :: r, o, h, i + 1, hl => by
    simp only [Dat.HoldRows] at h
    have := Dat.HoldRows.get h.2.2 i (by simpa using hl)
    have e : o + (i + 1) * k = o + k + i * k := by rw [Nat.add_mul]; omega
    rw [e]
    simpa using this
theorem Dat.HoldRows.mk {k b : Nat} : ∀ {xs : List (List Dat)} {o : Nat}, (∀ (i : Nat) (hi' : i < xs.length), Dat.HoldCells w S b (o + i * k) xs[i] ∧ xs[i].length = k) → Dat.HoldRows w S k b o xs
  | [], _, _ => by simp only [Dat.HoldRows]
  | ds :: r, o, h => by
    simp only [Dat.HoldRows]
    have h0 := h 0 (by simp)
    refine ⟨by simpa using h0.1, by simpa using h0.2, Dat.HoldRows.mk fun i hi' => ?_⟩
    have := h (i + 1) (by simpa using hi')
    have e : o + (i + 1) * k = o + k + i * k := by rw [Nat.add_mul]; omega
    rw [e] at this
    simpa using this
theorem Dat.HoldCells.of_vals {b : Nat} : ∀ {ds : List Dat} {vs : List Value} {o : Nat}, Dat.HoldVals w S ds vs → (∀ j, j < vs.length → w.cell? ⟨b, o + j, none⟩ = vs[j]?) → Dat.HoldCells w S b o ds
  | [], _, _, _, _ => by simp only [Dat.HoldCells]
  | _ :: _, [], _, h, _ => h.elim
  | d :: r, v :: vs, o, h, hc => by
    simp only [Dat.HoldCells]
    refine ⟨⟨v, by simpa using hc 0 (by simp), h.1⟩, Dat.HoldCells.of_vals h.2 fun j hj => ?_⟩
    have := hc (j + 1) (by simpa using hj)
    rw [show o + (j + 1) = o + 1 + j from by omega] at this
    simpa using this
theorem Dat.HoldCells.to_vals {b : Nat} : ∀ {ds : List Dat} {o : Nat}, Dat.HoldCells w S b o ds → ∃ vs : List Value, Dat.HoldVals w S ds vs ∧ vs.length = ds.length ∧ ∀ j, j < vs.length → w.cell? ⟨b, o + j, none⟩ = vs[j]?
  | [], _, _ => ⟨[], trivial, rfl, fun _ h => absurd h (by simp)⟩
  | d :: r, o, h => by
    simp only [Dat.HoldCells] at h
    obtain ⟨⟨u, hu, hd⟩, hr⟩ := h
    obtain ⟨vs, h1, h2, h3⟩ := Dat.HoldCells.to_vals hr
    refine ⟨u :: vs, ⟨hd, h1⟩, by simp [h2], fun j hj => ?_⟩
    cases j with
    | zero => simpa using hu
    | succ j =>
      have := h3 j (by simpa using hj)
      rw [show o + 1 + j = o + (j + 1) from by omega] at this
      simpa using this
theorem Dat.HoldVals.length : ∀ {ds : List Dat} {vs : List Value}, Dat.HoldVals w S ds vs → vs.length = ds.length
  | [], [], _ => rfl
  | _ :: _, _ :: _, h => by simpa using Dat.HoldVals.length h.2
  | [], _ :: _, h => h.elim
  | _ :: _, [], h => h.elim
/-- A row's element at an index: where it lies and what it holds. -/
theorem Row.at {k : Nat} {A : Option Addr} {c : Nat} {xs : List (List Dat)} (h : Row w S k A c xs) (i : Nat) (hi : i < xs.length) :
    ∃ b o vs, A = some ⟨b, o, none⟩ ∧ S b ∧ b < w.heap.size ∧ Dat.HoldVals w S xs[i] vs ∧ vs.length = k ∧ ∀ j, j < k → w.cell? ⟨b, o + i * k + j, none⟩ = vs[j]? := by
  obtain ⟨b, o, hA, h1, h2, hr⟩ := h.2.2 (by intro e; rw [e] at hi; simp at hi)
  obtain ⟨hc, hl⟩ := hr.get i hi
  obtain ⟨vs, g1, g2, g3⟩ := hc.to_vals
  exact ⟨b, o, vs, hA, h1, h2, g1, by omega, fun j hj => g3 j (by omega)⟩
end

theorem list_of_each {α : Type} {Q : Nat → α → Prop} : ∀ (n : Nat), (∀ i, i < n → ∃ x, Q i x) → ∃ l : List α, l.length = n ∧ ∀ (i : Nat) (h : i < l.length), Q i l[i]
  | 0, _ => ⟨[], rfl, fun i h => absurd h (by simp)⟩
  | n + 1, h => by
    obtain ⟨l, hl, hq⟩ := list_of_each n fun i hi => h i (by omega)
    obtain ⟨x, hx⟩ := h n (by omega)
    refine ⟨l ++ [x], by simp [hl], fun i hi => ?_⟩
    by_cases e : i < l.length
    · rw [List.getElem_append_left e]
      exact hq i e
    · obtain rfl : i = l.length := by simp at hi; omega
      simpa [hl] using hx

section
variable {H : Type} {enc : TypeId × Value → H} {P : Program} {w : World} {spare : Nat → Bool} {held : Bool}
theorem addr_add {b o i : Nat} : (⟨b, o, none⟩ : Addr).add i = ⟨b, o + i, none⟩ := by
  unfold Addr.add
  by_cases h : i = 0
  · subst h; rfl
  · simp [h]
/-- A slice of rows of k cells is read off its reading. -/
theorem open_row {α : Type} (D : α → List Dat) {t e : TypeId} {k n : Nat} {cs : List Value} {x : DataW H × List MemPlace} (ht : P.underlying t = some (.slice e)) (hk : P.cellsOf e = k) (hk0 : 0 < k)
    (hlen : ∀ y, (D y).length = k)
    (IH : ∀ m, m < n → ∀ (cs : List Value) (x : DataW H × List MemPlace), DataW.trod enc P w 0 spare held m e cs = some x → ∃ y : α, Dat.HoldVals w (fun _ => True) (D y) cs)
    (h : DataW.trod enc P w 0 spare held n t cs = some x) : ∃ (l : List α) (A : Option Addr) (c : Nat), cs = [.slice A l.length c] ∧ Row w (fun _ => True) k A c (l.map D) := by
  rcases DataW.trod_slice ht h with ⟨rfl, _⟩ | ⟨a, len, cap, elems, rest, m, rfl, rfl, _, _, hl, hc, hel, hi, _, _⟩
  · exact ⟨[], none, 0, rfl, by simp, by simp, fun h => absurd rfl h⟩
  · rw [hk] at hi
    have hones : ∀ i, i < len → ∃ y : α, ∃ vs, Dat.HoldVals w (fun _ => True) (D y) vs ∧ w.cells? 0 (a.add (i * k)) k = some vs := by
      intro i hlt
      have h1 := hi i hlt
      rw [List.getElem?_eq_getElem (by omega)] at h1
      cases hcs : w.cells? 0 (a.add (i * k)) k with
      | none => rw [hcs] at h1; simp at h1
      | some vs =>
        rw [hcs] at h1
        simp only [Option.bind_some] at h1
        obtain ⟨y, hy⟩ := IH m (by omega) vs _ h1
        exact ⟨y, vs, hy, rfl⟩
    obtain ⟨l, hll, hq⟩ := list_of_each len hones
    refine ⟨l, some a, cap, by rw [hll], by simp [hll, hl], hc, fun hne => ?_⟩
    have hpos : 0 < l.length := by
      cases l with
      | nil => simp at hne
      | cons y r => simp
    obtain ⟨vs0, g0, g1⟩ := hq 0 hpos
    obtain ⟨_, hcl, hat⟩ := World.cells?_some g1
    have hin := cell_in' ((hat 0 hk0).trans (List.getElem?_eq_getElem (by omega)))
    rw [add_add] at hin
    obtain ⟨b, o, sp⟩ := a
    have hsp : sp = none := by
      have := hin.1
      simp only [Nat.zero_mul, Nat.add_zero, Addr.add] at this
      simpa using this
    subst hsp
    refine ⟨b, o, rfl, trivial, ?_, ?_⟩
    · simpa [addr_add] using hin.2
    · refine Dat.HoldRows.mk fun i hi' => ?_
      simp only [List.length_map] at hi'
      obtain ⟨vs, g0, g1⟩ := hq i hi'
      obtain ⟨_, hcl, hat⟩ := World.cells?_some g1
      have hlv := g0.length
      rw [hlen] at hlv
      simp only [List.getElem_map]
      refine ⟨Dat.HoldCells.of_vals g0 ?_, hlen _⟩
      intro j hj
      have := hat j (by omega)
      rw [addr_add, addr_add] at this
      exact this
end
end Go.Proofs.Ytdjbfneniohaaaa
