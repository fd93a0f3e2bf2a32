/- CsetText, both sides. -/
import Derived.Test.YtjodcciloflgbaaDoorE0
import Derived.Test.YtjodcciloflgbaaDoorAh
import Derived.Laws.IdiomStrings
import Derived.Test.YtjodcciloflgbaaDoorA3
import Derived.Lib.BufferRead
namespace Go.Proofs.YtjodcciloflgbaaDoor
set_option linter.unusedVariables false
set_option linter.unusedSimpArgs false
set_option maxRecDepth 100000
open Go.RowKit

/-- The members of a set below k. -/
def csB (lo hi : Int) (k : Nat) : List Nat := (List.range k).filter (hasBit lo hi)
theorem csB_hit {lo hi : Int} {k : Nat} (h : hasBit lo hi k = true) : csB lo hi (k + 1) = csB lo hi k ++ [k] := by
  simp [csB, List.range_succ, h]
theorem csB_miss {lo hi : Int} {k : Nat} (h : hasBit lo hi k = false) : csB lo hi (k + 1) = csB lo hi k := by
  simp [csB, List.range_succ, h]
theorem csB_len (lo hi : Int) (k : Nat) : (csB lo hi k).length ≤ k := by
  have := List.length_filter_le (hasBit lo hi) (List.range k)
  simpa [csB] using this
theorem csB_lt (lo hi : Int) (k b : Nat) (h : b ∈ csB lo hi k) : b < k := by
  have := (List.mem_filter.1 h).1
  simpa using this
def csText (lo hi : Int) : ByteArray := ⟨((csB lo hi 128).map UInt8.ofNat).toArray⟩
theorem Tryd.info8 : (Tryd.prog.info? 5).map (fun i => (i.zero, i.size, i.bytes)) = some (some (.int .u8 0), 1, 1) := by kernel_rfl

theorem own_bel {wr w1 : World} {base : Nat} {e : TypeId} {size : Nat} {v : Value} {n : Nat} {xs : List Value} (h : wr.ownsRow base e size v n xs) (hb : Bel wr w1) : w1.ownsRow base e size v n xs := by
  refine ⟨h.1, h.2.elim Or.inl (fun ⟨g, cap, cur, hv, hg, hh, r⟩ => Or.inr ⟨g, cap, cur, hv, hg, ?_, r⟩)⟩
  have hlt : g < wr.heap.size := by
    rcases Nat.lt_or_ge g wr.heap.size with h' | h'
    · exact h'
    · rw [Array.getElem?_eq_none h'] at hh; cases hh
  rw [Below.block hb g hlt]; exact hh

theorem own_text (lo hi : Int) (wr : World) (base : Nat) (v : Value) (h : wr.ownsRow base 5 1 v (csB lo hi 128).length ((csB lo hi 128).map fun b : Nat => Value.int .u8 (b : Int))) :
    (convert 88 9 v).run Tryd.prog wr = .ok (.string (csText lo hi)) wr := by
  have h' := h
  rcases h.2 with ⟨rfl, h0⟩ | ⟨g, cap, cur, rfl, hg⟩
  · have e : csB lo hi 128 = [] := by simpa using h0
    rw [Lib.run_convert_nil_bytes wr 88 9 5 0 Tryd.underlying88 Tryd.underlying5 Tryd.underlying9]
    unfold csText
    rw [e]; rfl
  · unfold csText
    have hB := run_convert_bytes_back (P := Tryd.prog) wr 88 9 5 ⟨g, 0, none⟩ cap ((csB lo hi 128).map UInt8.ofNat) Tryd.underlying88 Tryd.underlying5 Tryd.underlying9 (fun j hj => by
      have hj2 : j < (csB lo hi 128).length := by simpa using hj
      rw [h'.cells rfl j (.int .u8 ((csB lo hi 128)[j] : Int)) (by simp [hj2])]
      have := csB_lt lo hi 128 _ (List.getElem_mem hj2)
      rw [List.getElem_map, UInt8.toNat_ofNat']
      congr 2
      omega)
    rw [List.length_map] at hB
    exact hB

end Go.Proofs.YtjodcciloflgbaaDoor
