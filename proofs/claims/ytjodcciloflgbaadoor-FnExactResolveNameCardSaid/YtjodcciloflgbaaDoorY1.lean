/- Keywords, unary and binary operators: both sides. -/
import Derived.Test.YtjodcciloflgbaaDoorN2
import Derived.OwnWalk
namespace Go.Proofs.YtjodcciloflgbaaDoor
set_option linter.unusedVariables false
set_option linter.unusedSimpArgs false
set_option maxRecDepth 100000
open Go.RowKit

def keyL : List ByteArray := [⟨#[110, 117, 108, 108]⟩, ⟨#[102, 97, 105, 108]⟩, ⟨#[115, 117, 98, 106, 101, 99, 116]⟩, ⟨#[112, 111, 115]⟩, ⟨#[108, 99, 97, 115, 101]⟩, ⟨#[117, 99, 97, 115, 101]⟩, ⟨#[108, 101, 116, 116, 101, 114, 115]⟩, ⟨#[100, 105, 103, 105, 116, 115]⟩]
def unL : List ByteArray := [⟨#[45]⟩, ⟨#[43]⟩, ⟨#[42]⟩, ⟨#[47]⟩, ⟨#[92]⟩, ⟨#[126]⟩, ⟨#[33]⟩, ⟨#[61]⟩, ⟨#[124]⟩, ⟨#[64]⟩, ⟨#[94]⟩, ⟨#[46]⟩, ⟨#[46, 62]⟩]
def levL0 : List ByteArray := [⟨#[38]⟩]
def levL1 : List ByteArray := [⟨#[63]⟩]
def levL2 : List ByteArray := [⟨#[58, 61]⟩, ⟨#[60, 45]⟩, ⟨#[58, 61, 58]⟩, ⟨#[60, 45, 62]⟩, ⟨#[43, 58, 61]⟩, ⟨#[45, 58, 61]⟩, ⟨#[42, 58, 61]⟩, ⟨#[47, 58, 61]⟩, ⟨#[37, 58, 61]⟩, ⟨#[94, 58, 61]⟩, ⟨#[124, 124, 58, 61]⟩, ⟨#[124, 124, 124, 58, 61]⟩, ⟨#[43, 43, 58, 61]⟩, ⟨#[45, 45, 58, 61]⟩, ⟨#[42, 42, 58, 61]⟩]
def levL3 : List ByteArray := []
def levL4 : List ByteArray := [⟨#[124]⟩, ⟨#[46, 124]⟩]
def levL5 : List ByteArray := [⟨#[60]⟩, ⟨#[60, 61]⟩, ⟨#[61]⟩, ⟨#[62, 61]⟩, ⟨#[62]⟩, ⟨#[126, 61]⟩, ⟨#[60, 60]⟩, ⟨#[60, 60, 61]⟩, ⟨#[61, 61]⟩, ⟨#[62, 62, 61]⟩, ⟨#[62, 62]⟩, ⟨#[126, 61, 61]⟩, ⟨#[61, 61, 61]⟩, ⟨#[126, 61, 61, 61]⟩, ⟨#[63, 63]⟩]
def levL6 : List ByteArray := [⟨#[124, 124]⟩, ⟨#[124, 124, 124]⟩]
def levL7 : List ByteArray := [⟨#[43]⟩, ⟨#[45]⟩, ⟨#[43, 43]⟩, ⟨#[45, 45]⟩]
def levL8 : List ByteArray := [⟨#[42]⟩, ⟨#[47]⟩, ⟨#[37]⟩, ⟨#[42, 42]⟩]
def levL9 : List ByteArray := [⟨#[94]⟩]
def levL10 : List ByteArray := [⟨#[92]⟩, ⟨#[45, 62]⟩, ⟨#[61, 62]⟩]
def levS : List ByteArray := [⟨#[38]⟩, ⟨#[63]⟩, ⟨#[58, 61, 32, 60, 45, 32, 58, 61, 58, 32, 60, 45, 62, 32, 43, 58, 61, 32, 45, 58, 61, 32, 42, 58, 61, 32, 47, 58, 61, 32, 37, 58, 61, 32, 94, 58, 61, 32, 124, 124, 58, 61, 32, 124, 124, 124, 58, 61, 32, 43, 43, 58, 61, 32, 45, 45, 58, 61, 32, 42, 42, 58, 61]⟩, ⟨#[]⟩, ⟨#[124, 32, 46, 124]⟩, ⟨#[60, 32, 60, 61, 32, 61, 32, 62, 61, 32, 62, 32, 126, 61, 32, 60, 60, 32, 60, 60, 61, 32, 61, 61, 32, 62, 62, 61, 32, 62, 62, 32, 126, 61, 61, 32, 61, 61, 61, 32, 126, 61, 61, 61, 32, 63, 63]⟩, ⟨#[124, 124, 32, 124, 124, 124]⟩, ⟨#[43, 32, 45, 32, 43, 43, 32, 45, 45]⟩, ⟨#[42, 32, 47, 32, 37, 32, 42, 42]⟩, ⟨#[94]⟩, ⟨#[92, 32, 45, 62, 32, 61, 62]⟩]
def levs : List (List ByteArray) := [levL0, levL1, levL2, levL3, levL4, levL5, levL6, levL7, levL8, levL9, levL10]
def binAll : List ByteArray := [⟨#[38]⟩, ⟨#[63]⟩, ⟨#[58, 61]⟩, ⟨#[60, 45]⟩, ⟨#[58, 61, 58]⟩, ⟨#[60, 45, 62]⟩, ⟨#[43, 58, 61]⟩, ⟨#[45, 58, 61]⟩, ⟨#[42, 58, 61]⟩, ⟨#[47, 58, 61]⟩, ⟨#[37, 58, 61]⟩, ⟨#[94, 58, 61]⟩, ⟨#[124, 124, 58, 61]⟩, ⟨#[124, 124, 124, 58, 61]⟩, ⟨#[43, 43, 58, 61]⟩, ⟨#[45, 45, 58, 61]⟩, ⟨#[42, 42, 58, 61]⟩, ⟨#[124]⟩, ⟨#[46, 124]⟩, ⟨#[60]⟩, ⟨#[60, 61]⟩, ⟨#[61]⟩, ⟨#[62, 61]⟩, ⟨#[62]⟩, ⟨#[126, 61]⟩, ⟨#[60, 60]⟩, ⟨#[60, 60, 61]⟩, ⟨#[61, 61]⟩, ⟨#[62, 62, 61]⟩, ⟨#[62, 62]⟩, ⟨#[126, 61, 61]⟩, ⟨#[61, 61, 61]⟩, ⟨#[126, 61, 61, 61]⟩, ⟨#[63, 63]⟩, ⟨#[124, 124]⟩, ⟨#[124, 124, 124]⟩, ⟨#[43]⟩, ⟨#[45]⟩, ⟨#[43, 43]⟩, ⟨#[45, 45]⟩, ⟨#[42]⟩, ⟨#[47]⟩, ⟨#[37]⟩, ⟨#[42, 42]⟩, ⟨#[94]⟩, ⟨#[92]⟩, ⟨#[45, 62]⟩, ⟨#[61, 62]⟩]
/-- Is the text a binary operator? -/
def binB (s : ByteArray) : Bool := Lib.containsS binAll s
def BinPost (s : ByteArray) (w : World) (e : Ending) (w' : World) : Prop := ∃ r : Int, e = .returned (.int .i64 r) ∧ decide (0 < r) = binB s ∧ Bel w w'
theorem specIsKeyword_any (x : ByteArray) (w : World) :
    Calls Tryd.prog 93 #[.string x] w fun e w' => e = .returned (.bool (Lib.containsS keyL x)) ∧ Bel w w' := by
  have hL : keyL.length = 8 := by decide +kernel
  have hF := l1Has_any keyL w.heap.size 8 x (w.alloc (.cells (keyL.map Value.string).toArray 9)) (by rw [hL]; omega) (fun j hj => strs_cell keyL w j hj)
  rw [hL] at hF
  go_enter Tryd.func93, Tryd.ntmps93
  go_wp2_with (go_at_call 79; refine hF.mono ?_; rintro e w1 ⟨rfl, rfl⟩)
  all_goals
    go_returns
    exact ⟨rfl, bl⟩
theorem implIsKeyword_any (x : ByteArray) (w : World) (ht : Sp w) :
    Calls Tryd.prog 86 #[.string x] w fun e w' => e = .returned (.bool (Lib.containsS keyL x)) ∧ Bel w w' := by
  have hL : keyL.length = 8 := by decide +kernel
  have hF := Tryd.slices_Contains_string w.heap.size 0 8 8 keyL x (w.alloc (.cells (keyL.map Value.string).toArray 9)) (by omega) (by omega) (fun j hj => by simpa using strs_cell keyL w j hj)
  rw [show keyL.take 8 = keyL by rw [← hL]; exact List.take_length] at hF
  go_enter Tryd.func86, Tryd.ntmps86
  go_wp2_with (first
    | (go_at_call 89; refine (fields_at keyL _ _ ht (by decide +kernel) (by decide +kernel) (by decide +kernel)).mono ?_; rintro e w1 ⟨rfl, rfl⟩; rw [hL])
    | (go_at_call 60; refine hF.mono ?_; rintro e w1 ⟨rfl, rfl⟩))
  all_goals
    go_returns
    exact ⟨rfl, bl⟩
theorem specIsUnary_any (x : ByteArray) (w : World) :
    Calls Tryd.prog 94 #[.string x] w fun e w' => e = .returned (.bool (Lib.containsS unL x)) ∧ Bel w w' := by
  have hL : unL.length = 13 := by decide +kernel
  have hF := l1Has_any unL w.heap.size 13 x (w.alloc (.cells (unL.map Value.string).toArray 9)) (by rw [hL]; omega) (fun j hj => strs_cell unL w j hj)
  rw [hL] at hF
  go_enter Tryd.func94, Tryd.ntmps94
  go_wp2_with (go_at_call 79; refine hF.mono ?_; rintro e w1 ⟨rfl, rfl⟩)
  all_goals
    go_returns
    exact ⟨rfl, bl⟩
theorem implIsUnary_any (x : ByteArray) (w : World) (ht : Sp w) :
    Calls Tryd.prog 87 #[.string x] w fun e w' => e = .returned (.bool (Lib.containsS unL x)) ∧ Bel w w' := by
  have hL : unL.length = 13 := by decide +kernel
  have hF := Tryd.slices_Contains_string w.heap.size 0 13 13 unL x (w.alloc (.cells (unL.map Value.string).toArray 9)) (by omega) (by omega) (fun j hj => by simpa using strs_cell unL w j hj)
  rw [show unL.take 13 = unL by rw [← hL]; exact List.take_length] at hF
  go_enter Tryd.func87, Tryd.ntmps87
  go_wp2_with (first
    | (go_at_call 89; refine (fields_at unL _ _ ht (by decide +kernel) (by decide +kernel) (by decide +kernel)).mono ?_; rintro e w1 ⟨rfl, rfl⟩; rw [hL])
    | (go_at_call 60; refine hF.mono ?_; rintro e w1 ⟨rfl, rfl⟩))
  all_goals
    go_returns
    exact ⟨rfl, bl⟩
end Go.Proofs.YtjodcciloflgbaaDoor
