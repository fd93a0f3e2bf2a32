/- A procedure's names: the law's form. -/
import Derived.Test.YtjodcciloflgbaaDoorPYr
import Derived.Test.YtjodcciloflgbaaDoorPOw
import Derived.Deep.Onto
namespace Go.Proofs.YtjodcciloflgbaaDoor
set_option linter.unusedVariables false
set_option linter.unusedSimpArgs false
set_option maxRecDepth 100000
open Go.RowKit
theorem own_strs {w : World} {g : Nat} : ∀ (xs : List ByteArray) (o : Nat), (∀ i (hi : i < xs.length), w.cell? ⟨g, o + i, none⟩ = some (.string xs[i])) → (∀ x ∈ xs, x.size ≤ maxLen) → Dat.OwnRows w 1 g o [] (strsD xs)
 | [], o, _, _ => by simp only [strsD, List.map_nil, Dat.OwnRows]
 | x :: r, o, h, hs => by
  simp only [strsD, List.map_cons, Dat.OwnRows]
  refine ⟨[], [], rfl, ⟨[], [], rfl, ⟨.string x, ?_, Dat.own_str.2 ⟨rfl, rfl, hs x (by simp)⟩⟩, rfl⟩, rfl, ?_⟩
  ·
   have := h 0 (by simp)
   simpa using this
  ·
   refine own_strs r (o + 1) (fun i hi => ?_) (fun y hy => hs y (by simp [hy]))
   have := h (i + 1) (by simpa using hi)
   rw [List.getElem_cons_succ] at this
   rw [Nat.add_assoc, Nat.add_comm 1 i]
   exact this
theorem OwnS.made {w w' : World} {v : Value} {xs : List ByteArray} (h : OwnS w w' v xs) (hb : Bel w w') : MadeRL w 1 (strsD xs) (.returned v) w' := by
 obtain ⟨⟨h1, h2⟩, h3⟩ := h
 rcases h2 with ⟨rfl, h0⟩ | ⟨g, cap, cur, rfl, hg, hh, hn, hm, hs, ht⟩
 ·
  have : xs = [] := List.eq_nil_of_length_eq_zero h0
  subst this
  exact ⟨none, 0, [], rfl, ⟨by simp, by unfold maxLen; omega, Or.inl ⟨rfl, rfl⟩⟩, List.nodup_nil, fun b hb => by simp at hb, hb⟩
 ·
  by_cases hx : xs = []
  ·
   subst hx
   exact ⟨some ⟨g, 0, none⟩, cap, [], rfl, ⟨by simp, hm, Or.inl ⟨rfl, rfl⟩⟩, List.nodup_nil, fun b hb => by simp at hb, hb⟩
  ·
   refine ⟨some ⟨g, 0, none⟩, cap, [g], by simp [strsD], ⟨by simpa [strsD] using hn, hm, Or.inr ⟨by simpa [strsD] using hx, g, 0, [], rfl, heap_lt hh, fun i => by simp [World.frozen?, hh], rfl, own_strs xs 0 (fun i hi => ?_) h3⟩⟩, by simp, fun b hb => by have := List.mem_singleton.1 hb; omega, hb⟩
   rw [Nat.zero_add, cell_of_row w' g i cur 9 (0, 0) hh]
   have : cur.toList[i]? = (cur.toList.take (xs.length * 1))[i]? := by rw [List.getElem?_take_of_lt (by omega)]
   rw [← Array.getElem?_toList, this, ht]
   simp [hi]
def locF (R : List TRecordType) (G : List ByteArray) (P : List TProcedure) (i : Int) : List ByteArray := if unitB (.mk R G P) = true ∧ 0 ≤ i then (match P[i.toNat]? with | some q => locL R G P q | none => []) else []
theorem loc_in {R : List TRecordType} {G : List ByteArray} {P : List TProcedure} {m : Nat} (h : unitB (.mk R G P) = true) (hm : m < P.length) : locF R G P (m : Int) = locL R G P P[m] := by
 unfold locF
 rw [if_pos ⟨h, by omega⟩, Int.toNat_natCast, List.getElem?_eq_getElem hm]
theorem locF_len (R : List TRecordType) (G : List ByteArray) (P : List TProcedure) (i : Int) : (locF R G P i).length ≤ 700 := by
 unfold locF
 split
 ·
  next c =>
  split
  ·
   next q hq =>
   obtain ⟨hm, rfl⟩ := List.getElem?_eq_some_iff.1 hq
   have h := proc_parts (proc_ok c.1 hm)
   have := TExpr.col_len (outO R G P) P[i.toNat].body (P[i.toNat].pars ++ P[i.toNat].locs)
   unfold locL
   rw [List.length_append] at this
   omega
  ·
   simp
 ·
  simp
end Go.Proofs.YtjodcciloflgbaaDoor
