/- The text of a core: the program's helpers. -/
import Derived.Test.YtpcimcamjlbagaaDoorP21
import Derived.Test.YtpcimcamjlbagaaDoorE1
namespace Go.Proofs.YtpcimcamjlbagaaDoor
set_option linter.unusedVariables false
set_option linter.unusedSimpArgs false
set_option maxRecDepth 100000
open Go.RowKit
def namesS : ByteArray := ⟨#[105, 110, 116, 101, 103, 101, 114, 32, 115, 116, 114, 105, 110, 103, 32, 99, 115, 101, 116, 32, 110, 117, 108, 108, 32, 108, 111, 99, 97, 108, 32, 103, 108, 111, 98, 97, 108, 32, 112, 114, 111, 99, 101, 100, 117, 114, 101, 32, 102, 117, 110, 99, 116, 105, 111, 110, 32, 99, 111, 110, 115, 116, 114, 117, 99, 116, 111, 114, 32, 107, 101, 121, 119, 111, 114, 100, 32, 111, 112, 101, 114, 97, 116, 101, 32, 99, 97, 108, 108, 32, 97, 108, 116, 101, 114, 110, 97, 116, 101, 32, 114, 101, 112, 101, 97, 116, 32, 108, 105, 109, 105, 116, 32, 98, 108, 111, 99, 107, 32, 105, 102, 32, 119, 104, 105, 108, 101, 32, 101, 118, 101, 114, 121, 32, 98, 114, 101, 97, 107, 32, 110, 101, 120, 116, 32, 115, 99, 97, 110, 32, 114, 101, 116, 117, 114, 110, 32, 102, 97, 105, 108, 32, 115, 117, 115, 112, 101, 110, 100, 32, 99, 114, 101, 97, 116, 101, 32, 97, 99, 116, 105, 118, 97, 116, 101, 32, 110, 111, 110, 101]⟩
theorem joinR_lib (b : ByteArray) : ∀ l : List ByteArray, (joinR b l).data.toList = Lib.joinTail b.data.toList (l.map (·.data.toList))
  | [] => by simp [joinR, Lib.joinTail]
  | x :: r => by
    have := joinR_lib b r
    simp only [joinR, ByteArray.data_append, Array.toList_append, this, Lib.joinTail, List.map_cons, List.flatten_cons, List.append_assoc]
theorem joinC_lib (b : ByteArray) : ∀ l : List ByteArray, (joinC b l).data.toList = Lib.join (l.map (·.data.toList)) b.data.toList
  | [] => by simp [joinC, Lib.join_nil]
  | x :: r => by
    rw [List.map_cons, Lib.join_cons, joinC, ByteArray.data_append, Array.toList_append, joinR_lib]
theorem joinC_arr (b : ByteArray) (l : List ByteArray) : (⟨(Lib.join (l.map (·.data.toList)) b.data.toList).toArray⟩ : ByteArray) = joinC b l := by
  rw [← joinC_lib]
theorem joined_any (xs : List ByteArray) (sep : ByteArray) (b o c : Nat) (w : World) (hb : b < w.heap.size) (hc : ∀ i (h : i < xs.length), w.cell? ⟨b, o + i, none⟩ = some (.string xs[i]))
    (hl : xs.length ≤ c) (hcm : xs.length ≤ 1000000000) (hsz : sep.size * xs.length + sumS xs ≤ 4000000000) :
    Calls Tryd.prog 20 #[.slice (some ⟨b, o, none⟩) xs.length c, .string sep] w fun e w' => e = .returned (.string (joinC sep xs)) ∧ Bel w w' := by
  have hj : (Lib.join (xs.map (·.data.toList)) sep.data.toList).length ≤ 140737488355328 := by
    rw [← joinC_lib, Array.length_toList]
    have h1 := joinC_size sep xs
    have h2 : (joinC sep xs).data.size = (joinC sep xs).size := rfl
    omega
  have hx : xs.length ≤ 140737488355328 := by omega
  have HJ := hide (Tryd.strings_Join b o c xs sep w (fun j x h => by
    obtain ⟨hlt, rfl⟩ := List.getElem?_eq_some_iff.1 h
    exact hc j hlt) hb hx hl hj)
  have HE := hide (joinC_arr sep xs)
  clear hc hj
  go_enter Tryd.func20, Tryd.ntmps20
  go_wp2_with (go_at_call 29; refine HJ.out.mono ?_; rintro e w8 ⟨rfl, hb8⟩; rw [HE.out])
  all_goals
    go_returns
    exact ⟨rfl, hb8⟩
theorem coreNames_fields : Lib.fields namesS.data.toList = (coreNames.drop 1).map fun s => s.data.toList := by decide
theorem coreFields_any (w : World) (ht : Sp w) : Calls Tryd.prog 16 #[.string namesS] w fun e w' => Strs (coreNames.drop 1) w w' e :=
  fields_at _ _ w ht (by decide) (by decide) coreNames_fields
end Go.Proofs.YtpcimcamjlbagaaDoor
