/- Operators and functions by name: what the reference's lists and the program's strings.Fields hold. -/
import Derived.Test.YtjodcciloflgbaaDoorQ
import Derived.Test.YtjodcciloflgbaaDoorShelf
import Derived.Lib.LaidTab
import Derived.Lib.SmallJoins
import Derived.Stop.LaidErr
namespace Go.Proofs.YtjodcciloflgbaaDoor
set_option linter.unusedVariables false
set_option linter.unusedSimpArgs false
set_option maxRecDepth 100000
open Go.RowKit

/-- The table that strings.Fields reads. -/
def Sp (w : World) : Prop := Lib.TabIs Tryd.prog w "strings.asciiSpace" .u8 Lib.asciiSpaceTab

def opsL : List ByteArray := [⟨#[45]⟩, ⟨#[43]⟩, ⟨#[42]⟩, ⟨#[47]⟩, ⟨#[92]⟩, ⟨#[126]⟩, ⟨#[33]⟩, ⟨#[61]⟩, ⟨#[94]⟩, ⟨#[46]⟩, ⟨#[46, 62]⟩]
def binL : List ByteArray := [⟨#[43]⟩, ⟨#[45]⟩, ⟨#[42]⟩, ⟨#[47]⟩, ⟨#[37]⟩, ⟨#[94]⟩, ⟨#[]⟩, ⟨#[]⟩, ⟨#[]⟩, ⟨#[]⟩, ⟨#[60]⟩, ⟨#[60, 61]⟩, ⟨#[61]⟩, ⟨#[62, 61]⟩, ⟨#[62]⟩, ⟨#[126, 61]⟩, ⟨#[]⟩, ⟨#[]⟩, ⟨#[]⟩, ⟨#[]⟩, ⟨#[60, 60]⟩, ⟨#[60, 60, 61]⟩, ⟨#[61, 61]⟩, ⟨#[62, 62, 61]⟩, ⟨#[62, 62]⟩, ⟨#[126, 61, 61]⟩, ⟨#[61, 61, 61]⟩, ⟨#[126, 61, 61, 61]⟩, ⟨#[]⟩, ⟨#[]⟩, ⟨#[124, 124]⟩, ⟨#[124, 124, 124]⟩, ⟨#[43, 43]⟩, ⟨#[45, 45]⟩, ⟨#[42, 42]⟩, ⟨#[]⟩, ⟨#[]⟩, ⟨#[]⟩, ⟨#[]⟩, ⟨#[]⟩, ⟨#[58, 61]⟩, ⟨#[60, 45]⟩, ⟨#[58, 61, 58]⟩, ⟨#[60, 45, 62]⟩]
def funL : List ByteArray := [⟨#[119, 114, 105, 116, 101]⟩, ⟨#[105, 109, 97, 103, 101]⟩, ⟨#[116, 121, 112, 101]⟩, ⟨#[105, 110, 116, 101, 103, 101, 114]⟩, ⟨#[115, 116, 114, 105, 110, 103]⟩, ⟨#[99, 115, 101, 116]⟩, ⟨#[108, 105, 115, 116]⟩, ⟨#[116, 97, 98, 108, 101]⟩, ⟨#[115, 101, 116]⟩, ⟨#[112, 117, 116]⟩, ⟨#[112, 117, 115, 104]⟩, ⟨#[103, 101, 116]⟩, ⟨#[112, 111, 112]⟩, ⟨#[112, 117, 108, 108]⟩, ⟨#[109, 101, 109, 98, 101, 114]⟩, ⟨#[105, 110, 115, 101, 114, 116]⟩, ⟨#[100, 101, 108, 101, 116, 101]⟩, ⟨#[107, 101, 121]⟩, ⟨#[115, 111, 114, 116]⟩, ⟨#[99, 111, 112, 121]⟩, ⟨#[102, 105, 110, 100]⟩, ⟨#[117, 112, 116, 111]⟩, ⟨#[109, 97, 110, 121]⟩, ⟨#[97, 110, 121]⟩, ⟨#[109, 97, 116, 99, 104]⟩, ⟨#[116, 97, 98]⟩, ⟨#[109, 111, 118, 101]⟩, ⟨#[112, 111, 115]⟩, ⟨#[114, 101, 112, 108]⟩, ⟨#[114, 101, 118, 101, 114, 115, 101]⟩, ⟨#[108, 101, 102, 116]⟩, ⟨#[114, 105, 103, 104, 116]⟩, ⟨#[99, 101, 110, 116, 101, 114]⟩, ⟨#[116, 114, 105, 109]⟩, ⟨#[109, 97, 112]⟩, ⟨#[111, 114, 100]⟩, ⟨#[99, 104, 97, 114]⟩, ⟨#[97, 98, 115]⟩, ⟨#[115, 101, 113]⟩, ⟨#[76, 101, 110]⟩, ⟨#[80, 111, 115]⟩, ⟨#[82, 80, 111, 115]⟩, ⟨#[84, 97, 98]⟩, ⟨#[82, 84, 97, 98]⟩, ⟨#[65, 110, 121]⟩, ⟨#[78, 111, 116, 65, 110, 121]⟩, ⟨#[83, 112, 97, 110]⟩, ⟨#[66, 114, 101, 97, 107]⟩, ⟨#[65, 114, 98]⟩, ⟨#[82, 101, 109]⟩, ⟨#[65, 114, 98, 110, 111]⟩, ⟨#[70, 101, 110, 99, 101]⟩, ⟨#[65, 98, 111, 114, 116]⟩, ⟨#[69, 109, 112, 116, 121]⟩, ⟨#[70, 97, 105, 108]⟩]
def g1L : List ByteArray := [⟨#[45]⟩, ⟨#[43]⟩, ⟨#[42]⟩, ⟨#[47]⟩, ⟨#[92]⟩, ⟨#[126]⟩, ⟨#[33]⟩, ⟨#[61]⟩, ⟨#[94]⟩, ⟨#[46]⟩, ⟨#[46, 62]⟩]
def g20L : List ByteArray := [⟨#[43]⟩, ⟨#[45]⟩, ⟨#[42]⟩, ⟨#[47]⟩, ⟨#[37]⟩, ⟨#[94]⟩]
def g30L : List ByteArray := [⟨#[60]⟩, ⟨#[60, 61]⟩, ⟨#[61]⟩, ⟨#[62, 61]⟩, ⟨#[62]⟩, ⟨#[126, 61]⟩]
def g40L : List ByteArray := [⟨#[60, 60]⟩, ⟨#[60, 60, 61]⟩, ⟨#[61, 61]⟩, ⟨#[62, 62, 61]⟩, ⟨#[62, 62]⟩, ⟨#[126, 61, 61]⟩, ⟨#[61, 61, 61]⟩, ⟨#[126, 61, 61, 61]⟩]
def g50L : List ByteArray := [⟨#[124, 124]⟩, ⟨#[124, 124, 124]⟩, ⟨#[43, 43]⟩, ⟨#[45, 45]⟩, ⟨#[42, 42]⟩]
def g60L : List ByteArray := [⟨#[58, 61]⟩, ⟨#[60, 45]⟩, ⟨#[58, 61, 58]⟩, ⟨#[60, 45, 62]⟩]
def g70L : List ByteArray := [⟨#[91, 93]⟩, ⟨#[91, 58, 93]⟩, ⟨#[116, 111]⟩, ⟨#[38]⟩, ⟨#[91, 46, 46, 46, 93]⟩, ⟨#[63, 63]⟩, ⟨#[46, 124]⟩, ⟨#[45, 62]⟩, ⟨#[61, 62]⟩, ⟨#[102, 105, 101, 108, 100]⟩]

/-- A block of strings, laid as the only new one. -/
def Strs (l : List ByteArray) (w w' : World) (e : Ending) : Prop :=
  e = .returned (.slice (some ⟨w.heap.size, 0, none⟩) l.length l.length) ∧ w' = w.alloc (.cells (l.map Value.string).toArray 9)

theorem strs_cell (l : List ByteArray) (w : World) (i : Nat) (h : i < l.length) :
    (w.alloc (.cells (l.map Value.string).toArray 9)).cell? ⟨w.heap.size, i, none⟩ = some (.string (l.getD i ByteArray.empty)) := by
  rw [World.cell?_alloc_mark]
  simp [h, List.getD]

theorem fields_at (l : List ByteArray) (d : ByteArray) (w : World) (ht : Sp w) (hs : d.size < 4294967281) (ha : (d.data.toList.all fun b => decide (b.toNat < 128)) = true)
    (hl : Lib.fields d.data.toList = l.map fun s => s.data.toList) :
    Calls Tryd.prog 89 #[.string d] w fun e w' => Strs l w w' e := by
  refine (Tryd.strings_Fields_laid d w hs (fun j b hb => by
    have := List.all_eq_true.1 ha b (List.mem_of_getElem? hb)
    simpa using this) ht).mono ?_
  rintro e w' ⟨rfl, rfl⟩
  have e1 : ((Lib.fields d.data.toList).map fun l => Value.string ⟨l.toArray⟩) = l.map Value.string := by
    rw [hl, List.map_map]; rfl
  have e2 : (Lib.fields d.data.toList).length = l.length := by rw [hl, List.length_map]
  rw [e1, e2]
  exact ⟨rfl, rfl⟩

theorem l9Functions_any (w : World) : Calls Tryd.prog 34 #[] w fun e w' => Strs funL w w' e := by
  go_enter Tryd.func34, Tryd.ntmps34
  go_wp2
  all_goals
    go_returns
    exact ⟨rfl, rfl⟩

theorem functionNames_any (w : World) (ht : Sp w) : Calls Tryd.prog 76 #[] w fun e w' => Strs funL w w' e := by
  go_enter Tryd.func76, Tryd.ntmps76
  go_wp2_with (go_at_call 89; refine (fields_at funL _ _ ht (by decide +kernel) (by decide +kernel) (by decide +kernel)).mono ?_; rintro e w1 ⟨rfl, rfl⟩)
  all_goals
    go_returns
    exact ⟨rfl, rfl⟩

end Go.Proofs.YtjodcciloflgbaaDoor