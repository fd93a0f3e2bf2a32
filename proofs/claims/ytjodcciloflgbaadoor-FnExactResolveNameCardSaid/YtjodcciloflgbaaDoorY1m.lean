/- Binary operators: the reference. -/
import Derived.Test.YtjodcciloflgbaaDoorY1
namespace Go.Proofs.YtjodcciloflgbaaDoor
set_option linter.unusedVariables false
set_option linter.unusedSimpArgs false
set_option maxRecDepth 100000
open Go.RowKit
set_option maxHeartbeats 8000000 in
theorem specBin_miss (x : ByteArray) (w : World) (h : ¬ x ∈ binAll) : Calls Tryd.prog 95 #[.string x] w (BinPost x w) := by
  have HB := hide (show binB x = false by cases hq : binB x; rfl; exact absurd ((Lib.containsS_iff _ _).1 hq) h)
  have hne : ∀ l : List UInt8, (⟨l.toArray⟩ : ByteArray) ∈ binAll → (x.toList == l) = false := by
    intro l hl
    rw [beq_eq_false_iff_ne]
    intro q
    exact h ((show (⟨l.toArray⟩ : ByteArray) = x from (ba_eq _ _).1 (by rw [q, ByteArray.toList_eq])) ▸ hl)
  have f0 : (x.toList == [38]) = false := hne _ (by simp [binAll])
  have f1 : (x.toList == [63]) = false := hne _ (by simp [binAll])
  have f2 : (x.toList == [58, 61]) = false := hne _ (by simp [binAll])
  have f3 : (x.toList == [60, 45]) = false := hne _ (by simp [binAll])
  have f4 : (x.toList == [58, 61, 58]) = false := hne _ (by simp [binAll])
  have f5 : (x.toList == [60, 45, 62]) = false := hne _ (by simp [binAll])
  have f6 : (x.toList == [43, 58, 61]) = false := hne _ (by simp [binAll])
  have f7 : (x.toList == [45, 58, 61]) = false := hne _ (by simp [binAll])
  have f8 : (x.toList == [42, 58, 61]) = false := hne _ (by simp [binAll])
  have f9 : (x.toList == [47, 58, 61]) = false := hne _ (by simp [binAll])
  have f10 : (x.toList == [37, 58, 61]) = false := hne _ (by simp [binAll])
  have f11 : (x.toList == [94, 58, 61]) = false := hne _ (by simp [binAll])
  have f12 : (x.toList == [124, 124, 58, 61]) = false := hne _ (by simp [binAll])
  have f13 : (x.toList == [124, 124, 124, 58, 61]) = false := hne _ (by simp [binAll])
  have f14 : (x.toList == [43, 43, 58, 61]) = false := hne _ (by simp [binAll])
  have f15 : (x.toList == [45, 45, 58, 61]) = false := hne _ (by simp [binAll])
  have f16 : (x.toList == [42, 42, 58, 61]) = false := hne _ (by simp [binAll])
  have f17 : (x.toList == [124]) = false := hne _ (by simp [binAll])
  have f18 : (x.toList == [46, 124]) = false := hne _ (by simp [binAll])
  have f19 : (x.toList == [60]) = false := hne _ (by simp [binAll])
  have f20 : (x.toList == [60, 61]) = false := hne _ (by simp [binAll])
  have f21 : (x.toList == [61]) = false := hne _ (by simp [binAll])
  have f22 : (x.toList == [62, 61]) = false := hne _ (by simp [binAll])
  have f23 : (x.toList == [62]) = false := hne _ (by simp [binAll])
  have f24 : (x.toList == [126, 61]) = false := hne _ (by simp [binAll])
  have f25 : (x.toList == [60, 60]) = false := hne _ (by simp [binAll])
  have f26 : (x.toList == [60, 60, 61]) = false := hne _ (by simp [binAll])
  have f27 : (x.toList == [61, 61]) = false := hne _ (by simp [binAll])
  have f28 : (x.toList == [62, 62, 61]) = false := hne _ (by simp [binAll])
  have f29 : (x.toList == [62, 62]) = false := hne _ (by simp [binAll])
  have f30 : (x.toList == [126, 61, 61]) = false := hne _ (by simp [binAll])
  have f31 : (x.toList == [61, 61, 61]) = false := hne _ (by simp [binAll])
  have f32 : (x.toList == [126, 61, 61, 61]) = false := hne _ (by simp [binAll])
  have f33 : (x.toList == [63, 63]) = false := hne _ (by simp [binAll])
  have f34 : (x.toList == [124, 124]) = false := hne _ (by simp [binAll])
  have f35 : (x.toList == [124, 124, 124]) = false := hne _ (by simp [binAll])
  have f36 : (x.toList == [43]) = false := hne _ (by simp [binAll])
  have f37 : (x.toList == [45]) = false := hne _ (by simp [binAll])
  have f38 : (x.toList == [43, 43]) = false := hne _ (by simp [binAll])
  have f39 : (x.toList == [45, 45]) = false := hne _ (by simp [binAll])
  have f40 : (x.toList == [42]) = false := hne _ (by simp [binAll])
  have f41 : (x.toList == [47]) = false := hne _ (by simp [binAll])
  have f42 : (x.toList == [37]) = false := hne _ (by simp [binAll])
  have f43 : (x.toList == [42, 42]) = false := hne _ (by simp [binAll])
  have f44 : (x.toList == [94]) = false := hne _ (by simp [binAll])
  have f45 : (x.toList == [92]) = false := hne _ (by simp [binAll])
  have f46 : (x.toList == [45, 62]) = false := hne _ (by simp [binAll])
  have f47 : (x.toList == [61, 62]) = false := hne _ (by simp [binAll])
  clear hne h
  go_enter Tryd.func95, Tryd.ntmps95
  go_wp2_with (fail)
  all_goals
    go_returns
    exact ⟨_, rfl, by rw [HB.out]; rfl, bl⟩
end Go.Proofs.YtjodcciloflgbaaDoor
