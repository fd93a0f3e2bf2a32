/- Are a unit's names distinct: the program. -/
import Derived.Test.YtdacpljinffnaaaDoorPYw
namespace Go.Proofs.YtdacpljinffnaaaDoor
set_option linter.unusedVariables false
set_option linter.unusedSimpArgs false
set_option maxRecDepth 100000
open Go.RowKit
theorem names_ok {R : List TRecordType} {G : List ByteArray} {P : List TProcedure} (h : unitB (.mk R G P) = true) : R.length ≤ 8 ∧ G.length ≤ 12 ∧ P.length ≤ 12 ∧ ∀ x ∈ G, x.size ≤ maxLen := by
 simp only [unitB, headU, Bool.and_eq_true, decide_eq_true_eq] at h
 exact ⟨h.1.1.1.1.1, h.1.1.1.1.2, h.1.1.1.2, fun x hx => name_size (List.all_eq_true.1 h.1.1.2 x hx)⟩
end Go.Proofs.YtdacpljinffnaaaDoor
