/- The laws' helpers of Expr: what is left behind a datum, copies, comparison. -/
import Derived.Test.YtdacpljinffnaaaDoorPD
import Derived.Test.YtdacpljinffnaaaDoorPTV
import Derived.Deep.Cut
namespace Go.Proofs.YtdacpljinffnaaaDoor
set_option linter.unusedVariables false
set_option linter.unusedSimpArgs false
set_option maxRecDepth 100000
open Go.RowKit
theorem strAt {w : World} {S : Nat → Prop} {A : Option Addr} {c : Nat} {l : List ByteArray} (h : Row w S 1 A c (l.map fun x => [Dat.str x])) (i : Nat) (hi : i < l.length) :
  ∃ b o, A = some ⟨b, o, none⟩ ∧ S b ∧ b < w.heap.size ∧ l[i].size ≤ maxLen ∧ w.cell? ⟨b, o + i, none⟩ = some (.string l[i]) := by
 obtain ⟨b, o, vs, hA, hS, hb, hv, hl, hc⟩ := Row.at h i (by simpa using hi)
 rw [List.getElem_map] at hv
 match vs, hv with
 | [v], hv =>
  obtain ⟨rfl, hs⟩ := Dat.holds_str.1 hv.1
  exact ⟨b, o, hA, hS, hb, hs, by simpa using hc 0 (by decide)⟩
end Go.Proofs.YtdacpljinffnaaaDoor
