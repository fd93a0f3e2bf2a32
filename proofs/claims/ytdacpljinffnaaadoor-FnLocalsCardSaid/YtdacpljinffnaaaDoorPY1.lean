/- Keywords, unary and binary operators: both sides. -/
import Derived.Test.YtdacpljinffnaaaDoorPN1
import Derived.OwnWalk
namespace Go.Proofs.YtdacpljinffnaaaDoor
set_option linter.unusedVariables false
set_option linter.unusedSimpArgs false
set_option maxRecDepth 100000
open Go.RowKit
def keyL : List ByteArray := [⟨#[110, 117, 108, 108]⟩, ⟨#[102, 97, 105, 108]⟩, ⟨#[115, 117, 98, 106, 101, 99, 116]⟩, ⟨#[112, 111, 115]⟩, ⟨#[108, 99, 97, 115, 101]⟩, ⟨#[117, 99, 97, 115, 101]⟩, ⟨#[108, 101, 116, 116, 101, 114, 115]⟩, ⟨#[100, 105, 103, 105, 116, 115]⟩]
def unL : List ByteArray := [⟨#[45]⟩, ⟨#[43]⟩, ⟨#[42]⟩, ⟨#[47]⟩, ⟨#[92]⟩, ⟨#[126]⟩, ⟨#[33]⟩, ⟨#[61]⟩, ⟨#[124]⟩, ⟨#[64]⟩, ⟨#[94]⟩, ⟨#[46]⟩, ⟨#[46, 62]⟩]
def levL0 : List ByteArray := [⟨#[38]⟩]
def levL1 : List ByteArray := [⟨#[63]⟩]
def levL2 : List ByteArray := [⟨#[58, 61]⟩, ⟨#[60, 45]⟩, ⟨#[58, 61, 58]⟩, ⟨#[60, 45, 62]⟩, ⟨#[43, 58, 61]⟩, ⟨#[45, 58, 61]⟩, ⟨#[42, 58, 61]⟩, ⟨#[47, 58, 61]⟩, ⟨#[37, 58, 61]⟩, ⟨#[94, 58, 61]⟩, ⟨#[124, 124, 58, 61]⟩, ⟨#[124, 124, 124, 58, 61]⟩, ⟨#[43, 43, 58, 61]⟩, ⟨#[45, 45, 58, 61]⟩, ⟨#[42, 42, 58, 61]⟩]
def levL3 : List ByteArray := []
def levL4 : List ByteArray := [⟨#[124]⟩, ⟨#[46, 124]⟩]
def levL5 : List ByteArray := [⟨#[60]⟩, ⟨#[60, 61]⟩, ⟨#[61]⟩, ⟨#[62, 61]⟩, ⟨#[62]⟩, ⟨#[126, 61]⟩, ⟨#[60, 60]⟩, ⟨#[60, 60, 61]⟩, ⟨#[61, 61]⟩, ⟨#[62, 62, 61]⟩, ⟨#[62, 62]⟩, ⟨#[126, 61, 61]⟩, ⟨#[61, 61, 61]⟩, ⟨#[126, 61, 61, 61]⟩, ⟨#[63, 63]⟩]
def levL6 : List ByteArray := [⟨#[124, 124]⟩, ⟨#[124, 124, 124]⟩]
def levL7 : List ByteArray := [⟨#[43]⟩, ⟨#[45]⟩, ⟨#[43, 43]⟩, ⟨#[45, 45]⟩]
def levL8 : List ByteArray := [⟨#[42]⟩, ⟨#[47]⟩, ⟨#[37]⟩, ⟨#[42, 42]⟩]
def levL9 : List ByteArray := [⟨#[94]⟩]
def levL10 : List ByteArray := [⟨#[92]⟩, ⟨#[45, 62]⟩, ⟨#[61, 62]⟩]
def levS : List ByteArray := [⟨#[38]⟩, ⟨#[63]⟩, ⟨#[58, 61, 32, 60, 45, 32, 58, 61, 58, 32, 60, 45, 62, 32, 43, 58, 61, 32, 45, 58, 61, 32, 42, 58, 61, 32, 47, 58, 61, 32, 37, 58, 61, 32, 94, 58, 61, 32, 124, 124, 58, 61, 32, 124, 124, 124, 58, 61, 32, 43, 43, 58, 61, 32, 45, 45, 58, 61, 32, 42, 42, 58, 61]⟩, ⟨#[]⟩, ⟨#[124, 32, 46, 124]⟩, ⟨#[60, 32, 60, 61, 32, 61, 32, 62, 61, 32, 62, 32, 126, 61, 32, 60, 60, 32, 60, 60, 61, 32, 61, 61, 32, 62, 62, 61, 32, 62, 62, 32, 126, 61, 61, 32, 61, 61, 61, 32, 126, 61, 61, 61, 32, 63, 63]⟩, ⟨#[124, 124, 32, 124, 124, 124]⟩, ⟨#[43, 32, 45, 32, 43, 43, 32, 45, 45]⟩, ⟨#[42, 32, 47, 32, 37, 32, 42, 42]⟩, ⟨#[94]⟩, ⟨#[92, 32, 45, 62, 32, 61, 62]⟩]
def levs : List (List ByteArray) := [levL0, levL1, levL2, levL3, levL4, levL5, levL6, levL7, levL8, levL9, levL10]
def binAll : List ByteArray := [⟨#[38]⟩, ⟨#[63]⟩, ⟨#[58, 61]⟩, ⟨#[60, 45]⟩, ⟨#[58, 61, 58]⟩, ⟨#[60, 45, 62]⟩, ⟨#[43, 58, 61]⟩, ⟨#[45, 58, 61]⟩, ⟨#[42, 58, 61]⟩, ⟨#[47, 58, 61]⟩, ⟨#[37, 58, 61]⟩, ⟨#[94, 58, 61]⟩, ⟨#[124, 124, 58, 61]⟩, ⟨#[124, 124, 124, 58, 61]⟩, ⟨#[43, 43, 58, 61]⟩, ⟨#[45, 45, 58, 61]⟩, ⟨#[42, 42, 58, 61]⟩, ⟨#[124]⟩, ⟨#[46, 124]⟩, ⟨#[60]⟩, ⟨#[60, 61]⟩, ⟨#[61]⟩, ⟨#[62, 61]⟩, ⟨#[62]⟩, ⟨#[126, 61]⟩, ⟨#[60, 60]⟩, ⟨#[60, 60, 61]⟩, ⟨#[61, 61]⟩, ⟨#[62, 62, 61]⟩, ⟨#[62, 62]⟩, ⟨#[126, 61, 61]⟩, ⟨#[61, 61, 61]⟩, ⟨#[126, 61, 61, 61]⟩, ⟨#[63, 63]⟩, ⟨#[124, 124]⟩, ⟨#[124, 124, 124]⟩, ⟨#[43]⟩, ⟨#[45]⟩, ⟨#[43, 43]⟩, ⟨#[45, 45]⟩, ⟨#[42]⟩, ⟨#[47]⟩, ⟨#[37]⟩, ⟨#[42, 42]⟩, ⟨#[94]⟩, ⟨#[92]⟩, ⟨#[45, 62]⟩, ⟨#[61, 62]⟩]
def binB (s : ByteArray) : Bool := Lib.containsS binAll s
def BinPost (s : ByteArray) (w : World) (e : Ending) (w' : World) : Prop := ∃ r : Int, e = .returned (.int .i64 r) ∧ decide (0 < r) = binB s ∧ Bel w w'
theorem specIsKeyword_any (x : ByteArray) (w : World) :
  Calls Tryd.prog 73 #[.string x] w fun e w' => e = .returned (.bool (Lib.containsS keyL x)) ∧ Bel w w' := by
 have hL : keyL.length = 8 := by decide +kernel
 have hF := l1Has_any keyL w.heap.size 8 x (w.alloc (.cells (keyL.map Value.string).toArray 9)) (by rw [hL]; omega) (fun j hj => strs_cell keyL w j hj)
 rw [hL] at hF
 go_enter Tryd.func73, Tryd.ntmps73
 go_wp2_with (go_at_call 64; refine hF.mono ?_; rintro e w1 ⟨rfl, rfl⟩)
 all_goals
  go_returns
  exact ⟨rfl, bl⟩
theorem implIsKeyword_any (x : ByteArray) (w : World) (ht : Sp w) :
  Calls Tryd.prog 61 #[.string x] w fun e w' => e = .returned (.bool (Lib.containsS keyL x)) ∧ Bel w w' := by
 have hL : keyL.length = 8 := by decide +kernel
 have hF := Tryd.slices_Contains_string w.heap.size 0 8 8 keyL x (w.alloc (.cells (keyL.map Value.string).toArray 9)) (by omega) (by omega) (fun j hj => by simpa using strs_cell keyL w j hj)
 rw [show keyL.take 8 = keyL by rw [← hL]; exact List.take_length] at hF
 go_enter Tryd.func61, Tryd.ntmps61
 go_wp2_with (first
  | (go_at_call 66; refine (fields_at keyL _ _ ht (by decide +kernel) (by decide +kernel) (by decide +kernel)).mono ?_; rintro e w1 ⟨rfl, rfl⟩; rw [hL])
  | (go_at_call 48; refine hF.mono ?_; rintro e w1 ⟨rfl, rfl⟩))
 all_goals
  go_returns
  exact ⟨rfl, bl⟩
theorem specIsUnary_any (x : ByteArray) (w : World) :
  Calls Tryd.prog 74 #[.string x] w fun e w' => e = .returned (.bool (Lib.containsS unL x)) ∧ Bel w w' := by
 have hL : unL.length = 13 := by decide +kernel
 have hF := l1Has_any unL w.heap.size 13 x (w.alloc (.cells (unL.map Value.string).toArray 9)) (by rw [hL]; omega) (fun j hj => strs_cell unL w j hj)
 rw [hL] at hF
 go_enter Tryd.func74, Tryd.ntmps74
 go_wp2_with (go_at_call 64; refine hF.mono ?_; rintro e w1 ⟨rfl, rfl⟩)
 all_goals
  go_returns
  exact ⟨rfl, bl⟩
theorem implIsUnary_any (x : ByteArray) (w : World) (ht : Sp w) :
  Calls Tryd.prog 62 #[.string x] w fun e w' => e = .returned (.bool (Lib.containsS unL x)) ∧ Bel w w' := by
 have hL : unL.length = 13 := by decide +kernel
 have hF := Tryd.slices_Contains_string w.heap.size 0 13 13 unL x (w.alloc (.cells (unL.map Value.string).toArray 9)) (by omega) (by omega) (fun j hj => by simpa using strs_cell unL w j hj)
 rw [show unL.take 13 = unL by rw [← hL]; exact List.take_length] at hF
 go_enter Tryd.func62, Tryd.ntmps62
 go_wp2_with (first
  | (go_at_call 66; refine (fields_at unL _ _ ht (by decide +kernel) (by decide +kernel) (by decide +kernel)).mono ?_; rintro e w1 ⟨rfl, rfl⟩; rw [hL])
  | (go_at_call 48; refine hF.mono ?_; rintro e w1 ⟨rfl, rfl⟩))
 all_goals
  go_returns
  exact ⟨rfl, bl⟩
end Go.Proofs.YtdacpljinffnaaaDoor
namespace Go.Proofs.YtdacpljinffnaaaDoor
set_option linter.unusedVariables false
set_option linter.unusedSimpArgs false
set_option maxRecDepth 100000
open Go.RowKit
set_option maxHeartbeats 8000000 in
theorem specBin_miss (x : ByteArray) (w : World) (h : ¬ x ∈ binAll) : Calls Tryd.prog 75 #[.string x] w (BinPost x w) := by
 have HB := hide (show binB x = false by cases hq : binB x; rfl; exact absurd ((Lib.containsS_iff _ _).1 hq) h)
 have hne : ∀ l : List UInt8, (⟨l.toArray⟩ : ByteArray) ∈ binAll → (x.toList == l) = false := by
  intro l hl
  rw [beq_eq_false_iff_ne]
  intro q
  exact h ((show (⟨l.toArray⟩ : ByteArray) = x from (ba_eq _ _).1 (by rw [q, ByteArray.toList_eq])) ▸ hl)
 have f0 : (x.toList == [38]) = false := hne _ (by simp [binAll])
 have f1 : (x.toList == [63]) = false := hne _ (by simp [binAll])
 have f2 : (x.toList == [58, 61]) = false := hne _ (by simp [binAll])
 have f3 : (x.toList == [60, 45]) = false := hne _ (by simp [binAll])
 have f4 : (x.toList == [58, 61, 58]) = false := hne _ (by simp [binAll])
 have f5 : (x.toList == [60, 45, 62]) = false := hne _ (by simp [binAll])
 have f6 : (x.toList == [43, 58, 61]) = false := hne _ (by simp [binAll])
 have f7 : (x.toList == [45, 58, 61]) = false := hne _ (by simp [binAll])
 have f8 : (x.toList == [42, 58, 61]) = false := hne _ (by simp [binAll])
 have f9 : (x.toList == [47, 58, 61]) = false := hne _ (by simp [binAll])
 have f10 : (x.toList == [37, 58, 61]) = false := hne _ (by simp [binAll])
 have f11 : (x.toList == [94, 58, 61]) = false := hne _ (by simp [binAll])
 have f12 : (x.toList == [124, 124, 58, 61]) = false := hne _ (by simp [binAll])
 have f13 : (x.toList == [124, 124, 124, 58, 61]) = false := hne _ (by simp [binAll])
 have f14 : (x.toList == [43, 43, 58, 61]) = false := hne _ (by simp [binAll])
 have f15 : (x.toList == [45, 45, 58, 61]) = false := hne _ (by simp [binAll])
 have f16 : (x.toList == [42, 42, 58, 61]) = false := hne _ (by simp [binAll])
 have f17 : (x.toList == [124]) = false := hne _ (by simp [binAll])
 have f18 : (x.toList == [46, 124]) = false := hne _ (by simp [binAll])
 have f19 : (x.toList == [60]) = false := hne _ (by simp [binAll])
 have f20 : (x.toList == [60, 61]) = false := hne _ (by simp [binAll])
 have f21 : (x.toList == [61]) = false := hne _ (by simp [binAll])
 have f22 : (x.toList == [62, 61]) = false := hne _ (by simp [binAll])
 have f23 : (x.toList == [62]) = false := hne _ (by simp [binAll])
 have f24 : (x.toList == [126, 61]) = false := hne _ (by simp [binAll])
 have f25 : (x.toList == [60, 60]) = false := hne _ (by simp [binAll])
 have f26 : (x.toList == [60, 60, 61]) = false := hne _ (by simp [binAll])
 have f27 : (x.toList == [61, 61]) = false := hne _ (by simp [binAll])
 have f28 : (x.toList == [62, 62, 61]) = false := hne _ (by simp [binAll])
 have f29 : (x.toList == [62, 62]) = false := hne _ (by simp [binAll])
 have f30 : (x.toList == [126, 61, 61]) = false := hne _ (by simp [binAll])
 have f31 : (x.toList == [61, 61, 61]) = false := hne _ (by simp [binAll])
 have f32 : (x.toList == [126, 61, 61, 61]) = false := hne _ (by simp [binAll])
 have f33 : (x.toList == [63, 63]) = false := hne _ (by simp [binAll])
 have f34 : (x.toList == [124, 124]) = false := hne _ (by simp [binAll])
 have f35 : (x.toList == [124, 124, 124]) = false := hne _ (by simp [binAll])
 have f36 : (x.toList == [43]) = false := hne _ (by simp [binAll])
 have f37 : (x.toList == [45]) = false := hne _ (by simp [binAll])
 have f38 : (x.toList == [43, 43]) = false := hne _ (by simp [binAll])
 have f39 : (x.toList == [45, 45]) = false := hne _ (by simp [binAll])
 have f40 : (x.toList == [42]) = false := hne _ (by simp [binAll])
 have f41 : (x.toList == [47]) = false := hne _ (by simp [binAll])
 have f42 : (x.toList == [37]) = false := hne _ (by simp [binAll])
 have f43 : (x.toList == [42, 42]) = false := hne _ (by simp [binAll])
 have f44 : (x.toList == [94]) = false := hne _ (by simp [binAll])
 have f45 : (x.toList == [92]) = false := hne _ (by simp [binAll])
 have f46 : (x.toList == [45, 62]) = false := hne _ (by simp [binAll])
 have f47 : (x.toList == [61, 62]) = false := hne _ (by simp [binAll])
 clear hne h
 go_enter Tryd.func75, Tryd.ntmps75
 go_wp2_with (fail)
 all_goals
  go_returns
  exact ⟨_, rfl, by rw [HB.out]; rfl, bl⟩
end Go.Proofs.YtdacpljinffnaaaDoor
namespace Go.Proofs.YtdacpljinffnaaaDoor
set_option linter.unusedVariables false
set_option linter.unusedSimpArgs false
set_option maxRecDepth 100000
open Go.RowKit
set_option maxHeartbeats 16000000 in
theorem specBin_hit (x : ByteArray) (w : World) (h : x ∈ binAll) : Calls Tryd.prog 75 #[.string x] w (BinPost x w) := by
 have HB := hide (show binB x = true from (Lib.containsS_iff _ _).2 h)
 have h2 : x = ⟨#[38]⟩ ∨ x = ⟨#[63]⟩ ∨ x = ⟨#[58, 61]⟩ ∨ x = ⟨#[60, 45]⟩ ∨ x = ⟨#[58, 61, 58]⟩ ∨ x = ⟨#[60, 45, 62]⟩ ∨ x = ⟨#[43, 58, 61]⟩ ∨ x = ⟨#[45, 58, 61]⟩ ∨ x = ⟨#[42, 58, 61]⟩ ∨ x = ⟨#[47, 58, 61]⟩ ∨ x = ⟨#[37, 58, 61]⟩ ∨ x = ⟨#[94, 58, 61]⟩ ∨ x = ⟨#[124, 124, 58, 61]⟩ ∨ x = ⟨#[124, 124, 124, 58, 61]⟩ ∨ x = ⟨#[43, 43, 58, 61]⟩ ∨ x = ⟨#[45, 45, 58, 61]⟩ ∨ x = ⟨#[42, 42, 58, 61]⟩ ∨ x = ⟨#[124]⟩ ∨ x = ⟨#[46, 124]⟩ ∨ x = ⟨#[60]⟩ ∨ x = ⟨#[60, 61]⟩ ∨ x = ⟨#[61]⟩ ∨ x = ⟨#[62, 61]⟩ ∨ x = ⟨#[62]⟩ ∨ x = ⟨#[126, 61]⟩ ∨ x = ⟨#[60, 60]⟩ ∨ x = ⟨#[60, 60, 61]⟩ ∨ x = ⟨#[61, 61]⟩ ∨ x = ⟨#[62, 62, 61]⟩ ∨ x = ⟨#[62, 62]⟩ ∨ x = ⟨#[126, 61, 61]⟩ ∨ x = ⟨#[61, 61, 61]⟩ ∨ x = ⟨#[126, 61, 61, 61]⟩ ∨ x = ⟨#[63, 63]⟩ ∨ x = ⟨#[124, 124]⟩ ∨ x = ⟨#[124, 124, 124]⟩ ∨ x = ⟨#[43]⟩ ∨ x = ⟨#[45]⟩ ∨ x = ⟨#[43, 43]⟩ ∨ x = ⟨#[45, 45]⟩ ∨ x = ⟨#[42]⟩ ∨ x = ⟨#[47]⟩ ∨ x = ⟨#[37]⟩ ∨ x = ⟨#[42, 42]⟩ ∨ x = ⟨#[94]⟩ ∨ x = ⟨#[92]⟩ ∨ x = ⟨#[45, 62]⟩ ∨ x = ⟨#[61, 62]⟩ := by simpa [binAll] using h
 clear h
 rcases h2 with rfl | rfl | rfl | rfl | rfl | rfl | rfl | rfl | rfl | rfl | rfl | rfl | rfl | rfl | rfl | rfl | rfl | rfl | rfl | rfl | rfl | rfl | rfl | rfl | rfl | rfl | rfl | rfl | rfl | rfl | rfl | rfl | rfl | rfl | rfl | rfl | rfl | rfl | rfl | rfl | rfl | rfl | rfl | rfl | rfl | rfl | rfl | rfl
 all_goals
  go_enter Tryd.func75, Tryd.ntmps75
  go_wp2_with (fail)
  go_returns
  exact ⟨_, rfl, by rw [HB.out]; rfl, bl⟩
end Go.Proofs.YtdacpljinffnaaaDoor
namespace Go.Proofs.YtdacpljinffnaaaDoor
set_option linter.unusedVariables false
set_option linter.unusedSimpArgs false
set_option maxRecDepth 100000
open Go.RowKit
theorem specBinaryLevel_any (x : ByteArray) (w : World) : Calls Tryd.prog 75 #[.string x] w (BinPost x w) := by
 by_cases h : x ∈ binAll
 ·
  exact specBin_hit x w h
 ·
  exact specBin_miss x w h
end Go.Proofs.YtdacpljinffnaaaDoor
