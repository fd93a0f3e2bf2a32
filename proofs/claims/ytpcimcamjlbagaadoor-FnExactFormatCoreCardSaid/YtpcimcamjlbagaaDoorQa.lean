/- Rows of bytes of the call's own; a text in quotes, the reference's. -/
import Derived.Test.YtpcimcamjlbagaaDoorQ
import Derived.Laws.IdiomStrings
import Derived.Lib.BufferRead
import Derived.Deep.Cut
namespace Go.Proofs.YtpcimcamjlbagaaDoor
set_option linter.unusedVariables false
set_option linter.unusedSimpArgs false
set_option maxRecDepth 100000
open Go.RowKit

def ByL (L : List Nat) : List Value := L.map fun (x : Nat) => Value.int .u8 (x : Int)
def txt (L : List Nat) : ByteArray := ⟨(L.map UInt8.ofNat).toArray⟩
theorem txt_size (L : List Nat) : (txt L).size = L.length := by unfold txt; simp [ByteArray.size]
theorem infoQ8 : (Tryd.prog.info? 5).map (fun i => (i.zero, i.size, i.bytes)) = some (some (.int .u8 0), 1, 1) := by kernel_rfl
theorem bytes_text (L : List Nat) (hL : ∀ x ∈ L, x < 256) (wr : World) (base : Nat) (v : Value) (h : wr.ownsRow base 5 1 v L.length (ByL L)) :
    (convert 44 9 v).run Tryd.prog wr = .ok (.string (txt L)) wr := by
  have h' := h
  rcases h.2 with ⟨rfl, h0⟩ | ⟨g, cap, cur, rfl, hg⟩
  · obtain rfl : L = [] := List.length_eq_zero_iff.1 h0
    rw [Lib.run_convert_nil_bytes wr 44 9 5 0 Tryd.underlying44 Tryd.underlying5 Tryd.underlying9]
    rfl
  · have hB := run_convert_bytes_back (P := Tryd.prog) wr 44 9 5 ⟨g, 0, none⟩ cap (L.map UInt8.ofNat) Tryd.underlying44 Tryd.underlying5 Tryd.underlying9 (fun j hj => by
      have hj2 : j < L.length := by simpa using hj
      rw [h'.cells rfl j (.int .u8 (L[j] : Int)) (by simp [ByL, hj2])]
      have := hL L[j] (List.getElem_mem hj2)
      rw [List.getElem_map, UInt8.toNat_ofNat']
      congr 2
      omega)
    rw [List.length_map] at hB
    exact hB
theorem own_belQ {w w' : World} {base : Nat} {e : TypeId} {size n : Nat} {v : Value} {xs : List Value} (h : w.ownsRow base e size v n xs) (hb : Bel w w') : w'.ownsRow base e size v n xs := by
  refine ⟨h.1, ?_⟩
  rcases h.2 with hn | ⟨g, cap, cur, rfl, hbg, hg, r⟩
  · exact .inl hn
  · have hl : g < w.heap.size := by
      rcases Nat.lt_or_ge g w.heap.size with h' | h'
      · exact h'
      · rw [Array.getElem?_eq_none h'] at hg; cases hg
    exact .inr ⟨g, cap, cur, rfl, hbg, (Below.block hb g hl).trans hg, r⟩
theorem own_new (w : World) (base : Nat) (e : TypeId) (n : Nat) (cur : Array Value) (hb : base ≤ w.heap.size) (hn : cur.size = n) (hm : n ≤ maxLen) : (w.alloc (.cells cur e)).ownsRow base e 1 (.slice (some ⟨w.heap.size, 0, none⟩) n n) n cur.toList :=
  ⟨by simp [hn], .inr ⟨w.heap.size, n, cur, rfl, hb, heap_alloc_new w _, Nat.le_refl _, hm, by simp [hn], by rw [List.take_of_length_le (by simp [hn])]⟩⟩

def hexd (x : Nat) : Nat := if x < 10 then 48 + x else 87 + x
/-- A byte between quotes q. -/
def escB (q b : Nat) : List Nat := if b = q ∨ b = 92 then [92, b] else if b = 10 then [92, 110] else if b = 9 then [92, 116] else if b < 32 ∨ 126 < b then [92, 120, hexd (b / 16), hexd (b % 16)] else [b]
theorem escB_len (q b : Nat) : (escB q b).length ≤ 4 := by unfold escB; (repeat' split) <;> simp
theorem escB_lt (q b : Nat) (hq : q < 256) (hb : b < 256) : ∀ x ∈ escB q b, x < 256 := by
  intro x hx
  unfold escB hexd at hx
  split at hx
  · simp at hx; omega
  · split at hx
    · simp at hx; omega
    · split at hx
      · simp at hx; omega
      · split at hx
        · simp at hx
          rcases hx with rfl | rfl | rfl | rfl
          · omega
          · omega
          · split <;> omega
          · split <;> omega
        · simp at hx; omega
def qtL (q : Nat) (s : ByteArray) : Nat → List Nat
  | 0 => [q]
  | k + 1 => qtL q s k ++ escB q (byteAt s k)
theorem qtL_len (q : Nat) (s : ByteArray) : ∀ k, (qtL q s k).length ≤ 1 + 4 * k
  | 0 => by simp [qtL]
  | k + 1 => by
    have := qtL_len q s k
    have := escB_len q (byteAt s k)
    simp only [qtL, List.length_append]
    omega
theorem qtL_lt (q : Nat) (s : ByteArray) (hq : q < 256) : ∀ k, ∀ x ∈ qtL q s k, x < 256
  | 0 => by simp [qtL, hq]
  | k + 1 => by
    intro x hx
    simp only [qtL, List.mem_append] at hx
    rcases hx with hx | hx
    · exact qtL_lt q s hq k x hx
    · exact escB_lt q _ hq (byteAt_lt s k) x hx
/-- A text in quotes. -/
def qt (q : Nat) (s : ByteArray) : ByteArray := txt (qtL q s s.size ++ [q])
theorem qt_size (q : Nat) (s : ByteArray) : (qt q s).size ≤ 2 + 4 * s.size := by
  have := qtL_len q s s.size
  unfold qt
  rw [txt_size, List.length_append]
  simp
  omega
theorem ByL_append (a b : List Nat) : ByL (a ++ b) = ByL a ++ ByL b := by simp [ByL]
set_option maxHeartbeats 400000 in
theorem l4Hex_any (x : Nat) (w : World) (hx : x < 16) : Calls Tryd.prog 30 #[.int .i64 (x : Int)] w fun e w' => e = .returned (.int .u8 (hexd x : Nat)) ∧ w = w' := by
  by_cases h : x < 10
  · have hd : decide ((x : Int) < 10) = true := by simp; omega
    have hw : IntKind.u8.wrap (48 + (x : Int)) = 48 + x := by rw [IntKind.wrap_u8]; omega
    go_enter Tryd.func30, Tryd.ntmps30
    go_wp2
    all_goals
      go_returns
      exact ⟨by unfold hexd; rw [if_pos h]; rfl, rfl⟩
  · have hd : decide ((x : Int) < 10) = false := by simp; omega
    have hw : IntKind.u8.wrap (87 + (x : Int)) = 87 + x := by rw [IntKind.wrap_u8]; omega
    go_enter Tryd.func30, Tryd.ntmps30
    go_wp2
    all_goals
      go_returns
      exact ⟨by unfold hexd; rw [if_neg h]; rfl, rfl⟩
end Go.Proofs.YtpcimcamjlbagaaDoor
