/-
 DERIVED: THE SHELF's CONTRACTS AT THIS DUMP, IN PLAIN WORDS (tools/lay-plain.mjs out of 'TryzShelf.lean', which tools/lay-shelf.mjs wrote): THE SAME DECLARATIONS UNDER THE SAME NAMES: 'import', 'namespace', 'open', 'def', 'theorem' AND NOTHING ELSE: no command of the shelf's: FOR A HAND-IN. Each laying: the table of numbers ('.._ren') and one theorem, a field a fact of the dump's own or the kernel's comparison; each contract: ONE APPLICATION.
-/
import Derived.Shelf.Strings.Fields
import Derived.Shelf.LaysM
import Derived.Shelf.Strings.SplitShaped
import Derived.Shelf.Unicode.Latin
import Derived.Shelf.Unicode.Is16White
import Derived.Shelf.Unicode.IsSpaceAny
import Derived.Shelf.Unicode.Is16WhiteD
import Derived.Shelf.Unicode.IsSpaceAnyD
import Derived.Shelf.Strings.FieldsAny
import Derived.Shelf.Strings.FieldsFuncAny
import Derived.Shelf.Unicode.Is16Any
import Derived.Shelf.Unicode.Is32Any
import Derived.Shelf.Unicode.ExclAny
import Derived.Shelf.Strings.FieldsFuncGrows
import Derived.Shelf.Slices.Turned
import Derived.Test.YtgofbnmablgedaaGreatDoorProg
import Derived.Test.YtgofbnmablgedaaGreatDoorPB
import Derived.Lib.LaidTab
import Derived.Lib.SmallJoins
import Derived.Stop.LaidErr
import Derived.Test.YtgofbnmablgedaaGreatDoorRows
namespace Go.Proofs
open Go.Shelf
open Go.RowKit Go.Lib in
def Tryz.laysM157_ren : Go.Shelf.Ren := ⟨fun | 157 => 98 | 229 => 102 | 199 => 103 | 261 => 104 | 311 => 105 | 312 => 106 | n => n, fun | 9 => 9 | 31 => 24 | 3 => 3 | 5 => 5 | 4 => 4 | 119 => 133 | 0 => 0 | 40 => 135 | 152 => 136 | 21 => 21 | 154 => 138 | 51 => 139 | 141 => 141 | 196 => 145 | 193 => 142 | 198 => 148 | 49 => 146 | 194 => 143 | 201 => 151 | 226 => 153 | 46 => 131 | 227 => 154 | n => n, fun | 0 => 0 | 6 => 1 | n => n⟩
theorem Tryz.laysM157 : Go.Proofs.LaysM.n157 Tryz.prog Tryz.laysM157_ren := {
 mixed := by kernel_rfl
 f157 := Tryz.func98.trans (congrArg some (by kernel_rfl))
 f199 := Tryz.func103.trans (congrArg some (by kernel_rfl))
 f229 := Tryz.func102.trans (congrArg some (by kernel_rfl))
 f261 := Tryz.func104.trans (congrArg some (by kernel_rfl))
 f311 := Tryz.func105.trans (congrArg some (by kernel_rfl))
 f312 := Tryz.func106.trans (congrArg some (by kernel_rfl))
 t0 := Tryz.underlying0
 a0 := Tryz.isAgg0
 z0 := Tryz.sizeOf0
 v0 := Tryz.zeroValue0
 t3 := Tryz.underlying3
 a3 := Tryz.isAgg3
 z3 := Tryz.sizeOf3
 v3 := Tryz.zeroValue3
 t4 := Tryz.underlying4
 a4 := Tryz.isAgg4
 z4 := Tryz.sizeOf4
 v4 := Tryz.zeroValue4
 t5 := Tryz.underlying5
 a5 := Tryz.isAgg5
 z5 := Tryz.sizeOf5
 v5 := Tryz.zeroValue5
 t9 := Tryz.underlying9
 a9 := Tryz.isAgg9
 z9 := Tryz.sizeOf9
 v9 := Tryz.zeroValue9
 t21 := Tryz.underlying21
 a21 := Tryz.isAgg21
 z21 := Tryz.sizeOf21
 v21 := Tryz.zeroValue21
 t31 := Tryz.underlying24
 a31 := Tryz.isAgg24
 z31 := Tryz.sizeOf24
 v31 := Tryz.zeroValue24
 t40 := Tryz.underlying135
 a40 := Tryz.isAgg135
 z40 := Tryz.sizeOf135
 v40 := Tryz.zeroValue135
 t46 := Tryz.underlying131
 a46 := Tryz.isAgg131
 z46 := Tryz.sizeOf131
 v46 := Tryz.zeroValue131
 t49 := Tryz.underlying146
 a49 := Tryz.isAgg146
 z49 := Tryz.sizeOf146
 v49 := Tryz.zeroValue146
 t51 := Tryz.underlying139
 a51 := Tryz.isAgg139
 z51 := Tryz.sizeOf139
 v51 := Tryz.zeroValue139
 t119 := Tryz.underlying133
 a119 := Tryz.isAgg133
 z119 := Tryz.sizeOf133
 t141 := Tryz.underlying141
 a141 := Tryz.isAgg141
 z141 := Tryz.sizeOf141
 v141 := Tryz.zeroValue141
 t152 := Tryz.underlying136
 a152 := Tryz.isAgg136
 z152 := Tryz.sizeOf136
 v152 := Tryz.zeroValue136
 t154 := Tryz.underlying138
 a154 := Tryz.isAgg138
 z154 := Tryz.sizeOf138
 v154 := Tryz.zeroValue138
 t193 := Tryz.underlying142
 a193 := Tryz.isAgg142
 z193 := Tryz.sizeOf142
 v193 := Tryz.zeroValue142
 t194 := Tryz.underlying143
 a194 := Tryz.isAgg143
 z194 := Tryz.sizeOf143
 v194 := Tryz.zeroValue143
 t196 := Tryz.underlying145
 a196 := Tryz.isAgg145
 z196 := Tryz.sizeOf145
 v196 := Tryz.zeroValue145
 t198 := Tryz.underlying148
 a198 := Tryz.isAgg148
 z198 := Tryz.sizeOf148
 v198 := Tryz.zeroValue148
 t201 := Tryz.underlying151
 a201 := Tryz.isAgg151
 z201 := Tryz.sizeOf151
 v201 := Tryz.zeroValue151
 t226 := Tryz.underlying153
 a226 := Tryz.isAgg153
 z226 := Tryz.sizeOf153
 v226 := Tryz.zeroValue153
 t227 := Tryz.underlying154
 a227 := Tryz.isAgg154
 z227 := Tryz.sizeOf154
 v227 := Tryz.zeroValue154
 g0 := by kernel_rfl
 g6 := by kernel_rfl
 i0 := by kernel_rfl
 i3 := by kernel_rfl
 i4 := by kernel_rfl
 i5 := by kernel_rfl
 i9 := by kernel_rfl
 i21 := by kernel_rfl
 i31 := by kernel_rfl
 i40 := by kernel_rfl
 i46 := by kernel_rfl
 i49 := by kernel_rfl
 i51 := by kernel_rfl
 i141 := by kernel_rfl
 i152 := by kernel_rfl
 i154 := by kernel_rfl
 i193 := by kernel_rfl
 i194 := by kernel_rfl
 i196 := by kernel_rfl
 i198 := by kernel_rfl
 i201 := by kernel_rfl
 i226 := by kernel_rfl
 i227 := by kernel_rfl
 m0 := by kernel_rfl
 m6 := by kernel_rfl }
open Go.RowKit Go.Lib in
theorem Tryz.strings_Fields_laid (s : ByteArray) (w : World) (hs : s.size < 4294967281) (hascii : ∀ (j : Nat) b, s.data.toList[j]? = some b → b.toNat < 128) (htab : Lib.TabIs Tryz.prog w "strings.asciiSpace" .u8 Lib.asciiSpaceTab) :
  Calls Tryz.prog 98 #[.string s] w fun e w' =>
   e = .returned (.slice (some ⟨w.heap.size, 0, none⟩) (Lib.fields s.data.toList).length (Lib.fields s.data.toList).length) ∧ w' = w.alloc (.cells ((Lib.fields s.data.toList).map fun l => Value.string ⟨l.toArray⟩).toArray 9) := Any.strings_Fields_laid Tryz.laysM157 s w hs hascii htab
open Go.RowKit Go.Lib in
open Go.RowKit Go.Lib in
open Go.RowKit Go.Lib in
open Go.RowKit Go.Lib in
open Go.RowKit Go.Lib in
open Go.RowKit Go.Lib in
open Go.RowKit Go.Lib in
open Go.RowKit Go.Lib in
open Go.RowKit Go.Lib in
open Go.RowKit Go.Lib in
open Go.RowKit Go.Lib in
open Go.RowKit Go.Lib in
open Go.RowKit Go.Lib in
open Go.RowKit Go.Lib in
open Go.RowKit Go.Lib in
open Go.Lib in
open Go.Lib in
def Tryz.lays110_ren : Go.Shelf.Ren := ⟨fun | 110 => 92 | 109 => 97 | n => n, fun | 31 => 24 | 9 => 9 | 4 => 4 | 3 => 3 | 0 => 0 | n => n, fun | n => n⟩
theorem Tryz.lays110 : Go.Proofs.Lays.n110 Tryz.prog Tryz.lays110_ren := {
 mixed := by kernel_rfl
 f109 := Tryz.func97.trans (congrArg some (by kernel_rfl))
 f110 := Tryz.func92.trans (congrArg some (by kernel_rfl))
 t0 := Tryz.underlying0
 a0 := Tryz.isAgg0
 z0 := Tryz.sizeOf0
 v0 := Tryz.zeroValue0
 t3 := Tryz.underlying3
 a3 := Tryz.isAgg3
 z3 := Tryz.sizeOf3
 v3 := Tryz.zeroValue3
 t4 := Tryz.underlying4
 a4 := Tryz.isAgg4
 z4 := Tryz.sizeOf4
 v4 := Tryz.zeroValue4
 t9 := Tryz.underlying9
 a9 := Tryz.isAgg9
 z9 := Tryz.sizeOf9
 v9 := Tryz.zeroValue9
 t31 := Tryz.underlying24
 a31 := Tryz.isAgg24
 z31 := Tryz.sizeOf24
 v31 := Tryz.zeroValue24 }
open Go.Lib in
theorem Tryz.slices_Contains_string (b off n c : Nat) (zs : List ByteArray) (x : ByteArray) (w : World) (hz : n ≤ zs.length) (hbig : n ≤ 9223372036854775807) (hc : ∀ j, j < zs.length → w.cell? ⟨b, off + j, none⟩ = some (.string (zs.getD j ByteArray.empty))) :
  Calls Tryz.prog 92 #[.slice (some ⟨b, off, none⟩) n c, .string x] w fun e w' => e = .returned (.bool (Lib.containsS (zs.take n) x)) ∧ w' = w := Any.slices_Contains_string Tryz.lays110 b off n c zs x w hz hbig hc
open Go.Lib in
theorem Tryz.slices_Contains_string_empty (a : Option Addr) (c : Nat) (x : ByteArray) (w : World) :
  Calls Tryz.prog 92 #[.slice a 0 c, .string x] w fun e w' => e = .returned (.bool false) ∧ w' = w := Any.slices_Contains_string_empty Tryz.lays110 a c x w
end Go.Proofs
namespace Go.Proofs.YtgofbnmablgedaaGreatDoor
set_option linter.unusedVariables false
set_option linter.unusedSimpArgs false
set_option maxRecDepth 100000
open Go.RowKit
def Sp (w : World) : Prop := Lib.TabIs Tryz.prog w "strings.asciiSpace" .u8 Lib.asciiSpaceTab
def opsL : List ByteArray := [⟨#[45]⟩, ⟨#[43]⟩, ⟨#[42]⟩, ⟨#[47]⟩, ⟨#[92]⟩, ⟨#[126]⟩, ⟨#[33]⟩, ⟨#[61]⟩, ⟨#[94]⟩, ⟨#[46]⟩, ⟨#[46, 62]⟩]
def binL : List ByteArray := [⟨#[43]⟩, ⟨#[45]⟩, ⟨#[42]⟩, ⟨#[47]⟩, ⟨#[37]⟩, ⟨#[94]⟩, ⟨#[]⟩, ⟨#[]⟩, ⟨#[]⟩, ⟨#[]⟩, ⟨#[60]⟩, ⟨#[60, 61]⟩, ⟨#[61]⟩, ⟨#[62, 61]⟩, ⟨#[62]⟩, ⟨#[126, 61]⟩, ⟨#[]⟩, ⟨#[]⟩, ⟨#[]⟩, ⟨#[]⟩, ⟨#[60, 60]⟩, ⟨#[60, 60, 61]⟩, ⟨#[61, 61]⟩, ⟨#[62, 62, 61]⟩, ⟨#[62, 62]⟩, ⟨#[126, 61, 61]⟩, ⟨#[61, 61, 61]⟩, ⟨#[126, 61, 61, 61]⟩, ⟨#[]⟩, ⟨#[]⟩, ⟨#[124, 124]⟩, ⟨#[124, 124, 124]⟩, ⟨#[43, 43]⟩, ⟨#[45, 45]⟩, ⟨#[42, 42]⟩, ⟨#[]⟩, ⟨#[]⟩, ⟨#[]⟩, ⟨#[]⟩, ⟨#[]⟩, ⟨#[58, 61]⟩, ⟨#[60, 45]⟩, ⟨#[58, 61, 58]⟩, ⟨#[60, 45, 62]⟩]
def g1L : List ByteArray := [⟨#[45]⟩, ⟨#[43]⟩, ⟨#[42]⟩, ⟨#[47]⟩, ⟨#[92]⟩, ⟨#[126]⟩, ⟨#[33]⟩, ⟨#[61]⟩, ⟨#[94]⟩, ⟨#[46]⟩, ⟨#[46, 62]⟩]
def g20L : List ByteArray := [⟨#[43]⟩, ⟨#[45]⟩, ⟨#[42]⟩, ⟨#[47]⟩, ⟨#[37]⟩, ⟨#[94]⟩]
def g30L : List ByteArray := [⟨#[60]⟩, ⟨#[60, 61]⟩, ⟨#[61]⟩, ⟨#[62, 61]⟩, ⟨#[62]⟩, ⟨#[126, 61]⟩]
def g40L : List ByteArray := [⟨#[60, 60]⟩, ⟨#[60, 60, 61]⟩, ⟨#[61, 61]⟩, ⟨#[62, 62, 61]⟩, ⟨#[62, 62]⟩, ⟨#[126, 61, 61]⟩, ⟨#[61, 61, 61]⟩, ⟨#[126, 61, 61, 61]⟩]
def g50L : List ByteArray := [⟨#[124, 124]⟩, ⟨#[124, 124, 124]⟩, ⟨#[43, 43]⟩, ⟨#[45, 45]⟩, ⟨#[42, 42]⟩]
def g60L : List ByteArray := [⟨#[58, 61]⟩, ⟨#[60, 45]⟩, ⟨#[58, 61, 58]⟩, ⟨#[60, 45, 62]⟩]
def g70L : List ByteArray := [⟨#[91, 93]⟩, ⟨#[91, 58, 93]⟩, ⟨#[116, 111]⟩, ⟨#[38]⟩, ⟨#[91, 46, 46, 46, 93]⟩, ⟨#[63, 63]⟩, ⟨#[46, 124]⟩, ⟨#[45, 62]⟩, ⟨#[61, 62]⟩, ⟨#[102, 105, 101, 108, 100]⟩]
def Strs (l : List ByteArray) (w w' : World) (e : Ending) : Prop :=
 e = .returned (.slice (some ⟨w.heap.size, 0, none⟩) l.length l.length) ∧ w' = w.alloc (.cells (l.map Value.string).toArray 9)
theorem strs_cell (l : List ByteArray) (w : World) (i : Nat) (h : i < l.length) :
  (w.alloc (.cells (l.map Value.string).toArray 9)).cell? ⟨w.heap.size, i, none⟩ = some (.string (l.getD i ByteArray.empty)) := by
 rw [World.cell?_alloc_mark]
 simp [h, List.getD]
theorem fields_at (l : List ByteArray) (d : ByteArray) (w : World) (ht : Sp w) (hs : d.size < 4294967281) (ha : (d.data.toList.all fun b => decide (b.toNat < 128)) = true)
  (hl : Lib.fields d.data.toList = l.map fun s => s.data.toList) :
  Calls Tryz.prog 98 #[.string d] w fun e w' => Strs l w w' e := by
 refine (Tryz.strings_Fields_laid d w hs (fun j b hb => by
  have := List.all_eq_true.1 ha b (List.mem_of_getElem? hb)
  simpa using this) ht).mono ?_
 rintro e w' ⟨rfl, rfl⟩
 have e1 : ((Lib.fields d.data.toList).map fun l => Value.string ⟨l.toArray⟩) = l.map Value.string := by
  rw [hl, List.map_map]; rfl
 have e2 : (Lib.fields d.data.toList).length = l.length := by rw [hl, List.length_map]
 rw [e1, e2]
 exact ⟨rfl, rfl⟩
theorem l10Ops_any (w : World) : Calls Tryz.prog 100 #[] w fun e w' => Strs opsL w w' e := by
 go_enter Tryz.func100, Tryz.ntmps100
 go_wp2
 all_goals
  go_returns
  exact ⟨rfl, rfl⟩
theorem l10Binary_any (w : World) : Calls Tryz.prog 101 #[] w fun e w' => Strs binL w w' e := by
 go_enter Tryz.func101, Tryz.ntmps101
 go_wp2
 all_goals
  go_returns
  exact ⟨rfl, rfl⟩
end Go.Proofs.YtgofbnmablgedaaGreatDoor
namespace Go.Proofs.YtgofbnmablgedaaGreatDoor
set_option linter.unusedVariables false
set_option linter.unusedSimpArgs false
set_option maxRecDepth 100000
open Go.RowKit
theorem sp_of {W : World} (h : laidMetH Tryz.prog [("unicode.White_Space", Rows.laid_unicode_White_Space), ("strings.asciiSpace", Rows.laid_strings_asciiSpace)] W) : Sp W :=
 Lib.tabIs_of_head (g := 0) (t := 133) (e := 5) (n := 256) (rest := []) (by kernel_rfl) (by kernel_rfl) Tryz.underlying133 Tryz.underlying5 (by kernel_rfl) (by kernel_rfl)
  (laidMet.tail (x := ("unicode.White_Space", Rows.laid_unicode_White_Space)) h)
end Go.Proofs.YtgofbnmablgedaaGreatDoor
