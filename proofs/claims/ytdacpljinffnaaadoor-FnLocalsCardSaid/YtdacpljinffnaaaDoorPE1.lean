/- Operators and functions by name: what the reference's lists and the program's strings.Fields hold. -/
import Derived.Test.YtdacpljinffnaaaDoorPB
import Derived.Test.YtdacpljinffnaaaDoorPShelf
import Derived.Lib.LaidTab
import Derived.Lib.SmallJoins
import Derived.Stop.LaidErr
import Derived.Test.YtdacpljinffnaaaDoorRows
namespace Go.Proofs.YtdacpljinffnaaaDoor
set_option linter.unusedVariables false
set_option linter.unusedSimpArgs false
set_option maxRecDepth 100000
open Go.RowKit
def Sp (w : World) : Prop := Lib.TabIs Tryd.prog w "strings.asciiSpace" .u8 Lib.asciiSpaceTab
def funL : List ByteArray := [⟨#[119, 114, 105, 116, 101]⟩, ⟨#[105, 109, 97, 103, 101]⟩, ⟨#[116, 121, 112, 101]⟩, ⟨#[105, 110, 116, 101, 103, 101, 114]⟩, ⟨#[115, 116, 114, 105, 110, 103]⟩, ⟨#[99, 115, 101, 116]⟩, ⟨#[108, 105, 115, 116]⟩, ⟨#[116, 97, 98, 108, 101]⟩, ⟨#[115, 101, 116]⟩, ⟨#[112, 117, 116]⟩, ⟨#[112, 117, 115, 104]⟩, ⟨#[103, 101, 116]⟩, ⟨#[112, 111, 112]⟩, ⟨#[112, 117, 108, 108]⟩, ⟨#[109, 101, 109, 98, 101, 114]⟩, ⟨#[105, 110, 115, 101, 114, 116]⟩, ⟨#[100, 101, 108, 101, 116, 101]⟩, ⟨#[107, 101, 121]⟩, ⟨#[115, 111, 114, 116]⟩, ⟨#[99, 111, 112, 121]⟩, ⟨#[102, 105, 110, 100]⟩, ⟨#[117, 112, 116, 111]⟩, ⟨#[109, 97, 110, 121]⟩, ⟨#[97, 110, 121]⟩, ⟨#[109, 97, 116, 99, 104]⟩, ⟨#[116, 97, 98]⟩, ⟨#[109, 111, 118, 101]⟩, ⟨#[112, 111, 115]⟩, ⟨#[114, 101, 112, 108]⟩, ⟨#[114, 101, 118, 101, 114, 115, 101]⟩, ⟨#[108, 101, 102, 116]⟩, ⟨#[114, 105, 103, 104, 116]⟩, ⟨#[99, 101, 110, 116, 101, 114]⟩, ⟨#[116, 114, 105, 109]⟩, ⟨#[109, 97, 112]⟩, ⟨#[111, 114, 100]⟩, ⟨#[99, 104, 97, 114]⟩, ⟨#[97, 98, 115]⟩, ⟨#[115, 101, 113]⟩, ⟨#[76, 101, 110]⟩, ⟨#[80, 111, 115]⟩, ⟨#[82, 80, 111, 115]⟩, ⟨#[84, 97, 98]⟩, ⟨#[82, 84, 97, 98]⟩, ⟨#[65, 110, 121]⟩, ⟨#[78, 111, 116, 65, 110, 121]⟩, ⟨#[83, 112, 97, 110]⟩, ⟨#[66, 114, 101, 97, 107]⟩, ⟨#[65, 114, 98]⟩, ⟨#[82, 101, 109]⟩, ⟨#[65, 114, 98, 110, 111]⟩, ⟨#[70, 101, 110, 99, 101]⟩, ⟨#[65, 98, 111, 114, 116]⟩, ⟨#[69, 109, 112, 116, 121]⟩, ⟨#[70, 97, 105, 108]⟩]
def Strs (l : List ByteArray) (w w' : World) (e : Ending) : Prop :=
 e = .returned (.slice (some ⟨w.heap.size, 0, none⟩) l.length l.length) ∧ w' = w.alloc (.cells (l.map Value.string).toArray 9)
theorem strs_cell (l : List ByteArray) (w : World) (i : Nat) (h : i < l.length) :
  (w.alloc (.cells (l.map Value.string).toArray 9)).cell? ⟨w.heap.size, i, none⟩ = some (.string (l.getD i ByteArray.empty)) := by
 rw [World.cell?_alloc_mark]
 simp [h, List.getD]
theorem fields_at (l : List ByteArray) (d : ByteArray) (w : World) (ht : Sp w) (hs : d.size < 4294967281) (ha : (d.data.toList.all fun b => decide (b.toNat < 128)) = true)
  (hl : Lib.fields d.data.toList = l.map fun s => s.data.toList) :
  Calls Tryd.prog 66 #[.string d] w fun e w' => Strs l w w' e := by
 refine (Tryd.strings_Fields_laid d w hs (fun j b hb => by
  have := List.all_eq_true.1 ha b (List.mem_of_getElem? hb)
  simpa using this) ht).mono ?_
 rintro e w' ⟨rfl, rfl⟩
 have e1 : ((Lib.fields d.data.toList).map fun l => Value.string ⟨l.toArray⟩) = l.map Value.string := by
  rw [hl, List.map_map]; rfl
 have e2 : (Lib.fields d.data.toList).length = l.length := by rw [hl, List.length_map]
 rw [e1, e2]
 exact ⟨rfl, rfl⟩
theorem l9Functions_any (w : World) : Calls Tryd.prog 17 #[] w fun e w' => Strs funL w w' e := by
 go_enter Tryd.func17, Tryd.ntmps17
 go_wp2
 all_goals
  go_returns
  exact ⟨rfl, rfl⟩
theorem functionNames_any (w : World) (ht : Sp w) : Calls Tryd.prog 54 #[] w fun e w' => Strs funL w w' e := by
 go_enter Tryd.func54, Tryd.ntmps54
 go_wp2_with (go_at_call 66; refine (fields_at funL _ _ ht (by decide +kernel) (by decide +kernel) (by decide +kernel)).mono ?_; rintro e w1 ⟨rfl, rfl⟩)
 all_goals
  go_returns
  exact ⟨rfl, rfl⟩
end Go.Proofs.YtdacpljinffnaaaDoor
namespace Go.Proofs.YtdacpljinffnaaaDoor
set_option linter.unusedVariables false
set_option linter.unusedSimpArgs false
set_option maxRecDepth 100000
open Go.RowKit
theorem sp_of {W : World} (h : laidMetH Tryd.prog [("unicode.White_Space", Rows.laid_unicode_White_Space), ("strings.asciiSpace", Rows.laid_strings_asciiSpace)] W) : Sp W :=
 Lib.tabIs_of_head (g := 0) (t := 87) (e := 5) (n := 256) (rest := []) (by kernel_rfl) (by kernel_rfl) Tryd.underlying87 Tryd.underlying5 (by kernel_rfl) (by kernel_rfl)
  (laidMet.tail (x := ("unicode.White_Space", Rows.laid_unicode_White_Space)) h)
end Go.Proofs.YtdacpljinffnaaaDoor
namespace Go.Proofs.YtdacpljinffnaaaDoor
set_option linter.unusedVariables false
set_option linter.unusedSimpArgs false
set_option maxRecDepth 100000
open Go.RowKit
theorem Sp.on {w w' : World} (h : Sp w) (hb : Bel w w') : Sp w' := Joins.tab_stays (g := 0) (by kernel_rfl) h hb (Nat.le_refl _)
theorem Strs.bel {l : List ByteArray} {w w' : World} {e : Ending} (h : Strs l w w' e) : Bel w w' := by
 rw [h.2]; exact Bel.alloc (Bel.refl w) _
set_option maxHeartbeats 400000 in
theorem l9Find_any (l : List ByteArray) (b c : Nat) (x : ByteArray) (w : World) (hl : l.length < 1000000) (hc : ∀ j, j < l.length → w.cell? ⟨b, j, none⟩ = some (.string (l.getD j ByteArray.empty))) :
  Calls Tryd.prog 18 #[.slice (some ⟨b, 0, none⟩) l.length c, .string x] w fun e w' => e = .returned (.int .i64 (Lib.idxOfS l x)) ∧ w' = w := by
 go_enter Tryd.func18, Tryd.ntmps18
 go_wp2_with (fail)
 go_loopw [5] (fun v wr => ∃ m : Nat, v = .int .i64 m ∧ m ≤ l.length ∧ Hid (∀ j, j < m → l.getD j ByteArray.empty ≠ x) ∧ wr = w) (fun v _ => l.length - (intOf v).toNat)
 case atStart => exact ⟨0, rfl, by omega, fun j hj => by omega, rfl⟩
 case round =>
  obtain ⟨m, rfl, m1, hm, rfl⟩ := hrel
  by_cases h1 : m < l.length
  ·
   have hd : decide ((m : Int) < (l.length : Int)) = true := by simp [h1]
   have hcm := hc m h1
   rw [show l.getD m ByteArray.empty = l[m] by simp [List.getD, h1]] at hcm
   have hw : IntKind.i64.wrap ((m : Int) + 1) = (m : Int) + 1 := by rw [IntKind.wrap_i64]; omega
   by_cases hx : l[m] = x
   ·
    have hR : Lib.idxOfS l x = m := by
     have := Lib.idxFromS_hit x l m 0 h1 (by simp [List.getD, h1, hx]) hm.out
     simpa [Lib.idxOfS] using this
    go_wp2_with (fail)
    all_goals
     go_returns
     exact ⟨by rw [hR]; rfl, rfl⟩
   ·
    have hd2 : (l[m].toList == x.toList) = false := by rw [beq_eq_false_iff_ne]; exact fun h => hx ((ba_eq _ _).1 h)
    go_wp2_with (fail)
    exact ⟨⟨m + 1, rfl, h1, fun j hj => by
     by_cases e : j = m
     ·
      subst e; simpa [List.getD, h1] using hx
     ·
      exact hm.out j (by omega), trivial⟩, by simp only [intOf]; omega⟩
  ·
   have hd : decide ((m : Int) < (l.length : Int)) = false := by simp [h1]
   have hR : Lib.idxOfS l x = -1 := Lib.idxFromS_miss x l 0 fun j hj => hm.out j (by omega)
   go_wp2_with (fail)
   all_goals
    go_returns
    exact ⟨by rw [hR]; rfl, rfl⟩
def funNumber (x : ByteArray) : Int := Lib.idxOfS funL x
theorem implFunctionNumber_any (x : ByteArray) (w : World) (ht : Sp w) :
  Calls Tryd.prog 36 #[.string x] w fun e w' => e = .returned (.int .i64 (funNumber x)) ∧ Bel w w' := by
 have hL : funL.length = 55 := by decide +kernel
 have hF := Tryd.slices_Index_string w.heap.size 0 55 55 funL x (w.alloc (.cells (funL.map Value.string).toArray 9)) (by omega) (by omega) (fun j hj => by simpa using strs_cell funL w j hj)
 rw [show funL.take 55 = funL by rw [← hL]; exact List.take_length] at hF
 go_enter Tryd.func36, Tryd.ntmps36
 go_wp2_with (first
  | (go_at_call 54; refine (functionNames_any _ ht).mono ?_; rintro e w1 ⟨rfl, rfl⟩; rw [hL])
  | (go_at_call 22; refine hF.mono ?_; rintro e w1 ⟨rfl, rfl⟩))
 all_goals
  go_returns
  exact ⟨rfl, bl⟩
end Go.Proofs.YtdacpljinffnaaaDoor
