/- Binary operators: the reference. -/
import Derived.Test.YtjodcciloflgbaaDoorY1
namespace Go.Proofs.YtjodcciloflgbaaDoor
set_option linter.unusedVariables false
set_option linter.unusedSimpArgs false
set_option maxRecDepth 100000
open Go.RowKit
set_option maxHeartbeats 16000000 in
theorem specBin_hit (x : ByteArray) (w : World) (h : x ∈ binAll) : Calls Tryd.prog 95 #[.string x] w (BinPost x w) := by
  have HB := hide (show binB x = true from (Lib.containsS_iff _ _).2 h)
  have h2 : x = ⟨#[38]⟩ ∨ x = ⟨#[63]⟩ ∨ x = ⟨#[58, 61]⟩ ∨ x = ⟨#[60, 45]⟩ ∨ x = ⟨#[58, 61, 58]⟩ ∨ x = ⟨#[60, 45, 62]⟩ ∨ x = ⟨#[43, 58, 61]⟩ ∨ x = ⟨#[45, 58, 61]⟩ ∨ x = ⟨#[42, 58, 61]⟩ ∨ x = ⟨#[47, 58, 61]⟩ ∨ x = ⟨#[37, 58, 61]⟩ ∨ x = ⟨#[94, 58, 61]⟩ ∨ x = ⟨#[124, 124, 58, 61]⟩ ∨ x = ⟨#[124, 124, 124, 58, 61]⟩ ∨ x = ⟨#[43, 43, 58, 61]⟩ ∨ x = ⟨#[45, 45, 58, 61]⟩ ∨ x = ⟨#[42, 42, 58, 61]⟩ ∨ x = ⟨#[124]⟩ ∨ x = ⟨#[46, 124]⟩ ∨ x = ⟨#[60]⟩ ∨ x = ⟨#[60, 61]⟩ ∨ x = ⟨#[61]⟩ ∨ x = ⟨#[62, 61]⟩ ∨ x = ⟨#[62]⟩ ∨ x = ⟨#[126, 61]⟩ ∨ x = ⟨#[60, 60]⟩ ∨ x = ⟨#[60, 60, 61]⟩ ∨ x = ⟨#[61, 61]⟩ ∨ x = ⟨#[62, 62, 61]⟩ ∨ x = ⟨#[62, 62]⟩ ∨ x = ⟨#[126, 61, 61]⟩ ∨ x = ⟨#[61, 61, 61]⟩ ∨ x = ⟨#[126, 61, 61, 61]⟩ ∨ x = ⟨#[63, 63]⟩ ∨ x = ⟨#[124, 124]⟩ ∨ x = ⟨#[124, 124, 124]⟩ ∨ x = ⟨#[43]⟩ ∨ x = ⟨#[45]⟩ ∨ x = ⟨#[43, 43]⟩ ∨ x = ⟨#[45, 45]⟩ ∨ x = ⟨#[42]⟩ ∨ x = ⟨#[47]⟩ ∨ x = ⟨#[37]⟩ ∨ x = ⟨#[42, 42]⟩ ∨ x = ⟨#[94]⟩ ∨ x = ⟨#[92]⟩ ∨ x = ⟨#[45, 62]⟩ ∨ x = ⟨#[61, 62]⟩ := by simpa [binAll] using h
  clear h
  rcases h2 with rfl | rfl | rfl | rfl | rfl | rfl | rfl | rfl | rfl | rfl | rfl | rfl | rfl | rfl | rfl | rfl | rfl | rfl | rfl | rfl | rfl | rfl | rfl | rfl | rfl | rfl | rfl | rfl | rfl | rfl | rfl | rfl | rfl | rfl | rfl | rfl | rfl | rfl | rfl | rfl | rfl | rfl | rfl | rfl | rfl | rfl | rfl | rfl
  all_goals
    go_enter Tryd.func95, Tryd.ntmps95
    go_wp2_with (fail)
    go_returns
    exact ⟨_, rfl, by rw [HB.out]; rfl, bl⟩
end Go.Proofs.YtjodcciloflgbaaDoor
