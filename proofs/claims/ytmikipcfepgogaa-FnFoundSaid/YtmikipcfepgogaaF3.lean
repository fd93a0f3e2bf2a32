/- The bytes of a draw as an argument; what IntegerOfText says of a number's own text. -/
import Derived.Test.YtmikipcfepgogaaF2
import Derived.Deep.Slices
namespace Go.Proofs.Ytmikipcfepgogaa
set_option linter.unusedVariables false
set_option linter.unusedSimpArgs false
set_option maxRecDepth 100000
open Go.ChangeShapes Go.WideShapes Go.ChangeAt Go.RowKit Go.Deep

theorem cell_in {w : World} {a : Addr} {v : Value} (h : w.cell? a = some v) : a.spot = none ∧ a.block < w.heap.size := by
  unfold World.cell? at h
  split at h
  · rename_i c _ _ hb
    refine ⟨?_, ?_⟩
    · split at h
      · cases h
      · rename_i hs; cases hsp : a.spot with
        | none => rfl
        | some x => rw [hsp] at hs; simp at hs
    · rcases Nat.lt_or_ge a.block w.heap.size with h' | h'
      · exact h'
      · rw [Array.getElem?_eq_none h'] at hb; cases hb
  · cases h
theorem bounds_u8' {n : Int} (h : (Lit.int .u8 n).wf = true) : 0 ≤ n ∧ n < 256 := by
  have e1 : IntKind.u8.min = 0 := by decide
  have e2 : IntKind.u8.max = 255 := by decide
  simp [Lit.wf, e1, e2] at h
  omega
theorem open_bytes {H : Type} {enc : TypeId × Value → H} {W : World} {spare : Nat → Bool} {held : Bool} {A : Option Addr} {n cap : Nat} {d : DataW H} {p : List MemPlace}
    (h : DataW.Trod enc Try.prog W 0 spare held 47 (.slice A n cap) d p) : ∀ c, W.heap.size ≤ c → n ≤ 1048576 → Bts W c A n := by
  intro c hc hn
  refine ⟨hn, fun h0 => ?_⟩
  obtain ⟨fuel, hf⟩ := h
  rcases open_slice1 Try.underlying47 (by kernel_rfl) hf with ⟨e, _⟩ | ⟨a, len, cap', m, k, V, D, Pl, e, _, hl, _, hm, _, hi⟩
  · simp only [Value.cells] at e
    injection e with e _
    injection e with e1 e2 e3
    omega
  · simp only [Value.cells] at e
    injection e with e _
    injection e with e1 e2 e3
    subst e1 e2 e3
    have hlm : n ≤ m := by rw [hm]; split <;> omega
    have hz := hi 0 (by omega)
    have hz1 := cell_in hz.1
    obtain ⟨b, o, sp⟩ := a
    simp only [Addr.add] at hz1
    obtain ⟨rfl, hb⟩ := hz1
    refine ⟨b, o, rfl, hb, by show b ≠ c; have : b < W.heap.size := hb; omega, fun j hj => ?_⟩
    obtain ⟨h1, h2⟩ := hi j (by omega)
    obtain ⟨x, ex, _, wx⟩ := DataW.trod_int (cs := [V j]) Try.underlying5 h2
    simp only [List.cons.injEq, and_true] at ex
    have hx := bounds_u8' wx
    refine ⟨x.toNat, by omega, ?_⟩
    rw [show ((x.toNat : Nat) : Int) = x by omega, ← ex]
    rcases Nat.eq_zero_or_pos j with h0 | h0
    · subst h0; simpa [Addr.add] using h1
    · have h9 : ¬ j = 0 := by omega
      simpa [Addr.add, h9] using h1


end Go.Proofs.Ytmikipcfepgogaa
