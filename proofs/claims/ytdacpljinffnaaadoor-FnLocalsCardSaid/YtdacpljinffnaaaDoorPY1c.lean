/- Binary operators: the program. -/
import Derived.Test.YtdacpljinffnaaaDoorPY1
import Derived.Test.YtdacpljinffnaaaDoorPV0
import Derived.Deep.QuietTactic
import Derived.BigQuiet
namespace Go.Proofs.YtdacpljinffnaaaDoor
set_option linter.unusedVariables false
set_option linter.unusedSimpArgs false
set_option maxRecDepth 100000
open Go.RowKit
theorem lev_mem (x : ByteArray) : binB x = levs.any fun l => Lib.containsS l x := by
 rw [Bool.eq_iff_iff, binB, Lib.containsS_iff, List.any_eq_true]
 simp only [Lib.containsS_iff]
 constructor
 ·
  intro h
  have e : binAll = levs.flatten := by decide
  rw [e, List.mem_flatten] at h
  exact h
 ·
  intro h
  have e : binAll = levs.flatten := by decide
  rw [e, List.mem_flatten]
  exact h
set_option maxHeartbeats 4000000 in
theorem implBinaryLevel_any (x : ByteArray) (w : World) (ht : Sp w) : Calls Tryd.prog 63 #[.string x] w (BinPost x w) := by
 have HT := hide ht
 clear ht
 have HM := hide (lev_mem x)
 go_enter Tryd.func63, Tryd.ntmps63
 go_wp2_with (fail)
 go_loopw [9] (fun v wr => ∃ m : Nat, v = .int .i64 m ∧ m ≤ 11 ∧ Hid (∀ j, j < m → Lib.containsS (levs.getD j []) x = false) ∧ Bel (w.alloc (.cells (levS.map Value.string).toArray 9)) wr) (fun v _ => 11 - (intOf v).toNat)
 case atStart => exact ⟨0, rfl, by omega, fun j hj => by omega, Bel.refl _⟩
 case round =>
  obtain ⟨m, rfl, hm, hK, hbx⟩ := hrel
  have hz0 := hbx.size
  simp only [World.size_alloc] at hz0
  have hq0 : ¬ w.heap.size = wr.heap.size := by omega
  have hcell := hide (fun j (hj : j < 11) => (hbx.box w.heap.size (by simp) j).trans (strs_cell levS w j hj))
  by_cases h1 : m < 11
  ·
   rcases (by omega : m = 0 ∨ m = 1 ∨ m = 2 ∨ m = 3 ∨ m = 4 ∨ m = 5 ∨ m = 6 ∨ m = 7 ∨ m = 8 ∨ m = 9 ∨ m = 10) with rfl | rfl | rfl | rfl | rfl | rfl | rfl | rfl | rfl | rfl | rfl
   ·
    have c0 : wr.cell? ⟨w.heap.size, 0, none⟩ = some (.string ⟨#[38]⟩) := hcell.out 0 (by decide)
    have hL : levL0.length = 1 := by decide +kernel
    cases hc : Lib.containsS levL0 x
    ·
     have HC := hide hc
     clear hc
     go_wp2_with (first
      | (go_at_call 66; refine (fields_at levL0 _ _ (HT.out.on bl) (by decide +kernel) (by decide +kernel) (by decide +kernel)).mono ?_; rintro e w1 ⟨rfl, rfl⟩; rw [hL])
      | (go_at_call 48; refine (show _ from by have hF := Tryd.slices_Contains_string wr.heap.size 0 1 1 levL0 x (wr.alloc (.cells (levL0.map Value.string).toArray 9)) (by omega) (by omega) (fun j hj => by simpa using strs_cell levL0 wr j hj); rw [show levL0.take 1 = levL0 by rw [← hL]; exact List.take_length] at hF; exact hF : Calls Tryd.prog 48 _ _ (fun e w' => e = .returned (.bool (Lib.containsS levL0 x)) ∧ w' = wr.alloc (.cells (levL0.map Value.string).toArray 9))).mono ?_; rintro e w2 ⟨rfl, rfl⟩; rw [HC.out]))
     go_roundw
     case rel => exact ⟨1, by go_num, by omega, hide (fun j hj => by
      by_cases e : j = 0
      ·
       subst e; exact HC.out
      ·
       exact hK.out j (by omega)), bl⟩
     case measure => simp [intOf]
    ·
     have HC := hide hc
     clear hc
     go_wp2_with (first
      | (go_at_call 66; refine (fields_at levL0 _ _ (HT.out.on bl) (by decide +kernel) (by decide +kernel) (by decide +kernel)).mono ?_; rintro e w1 ⟨rfl, rfl⟩; rw [hL])
      | (go_at_call 48; refine (show _ from by have hF := Tryd.slices_Contains_string wr.heap.size 0 1 1 levL0 x (wr.alloc (.cells (levL0.map Value.string).toArray 9)) (by omega) (by omega) (fun j hj => by simpa using strs_cell levL0 wr j hj); rw [show levL0.take 1 = levL0 by rw [← hL]; exact List.take_length] at hF; exact hF : Calls Tryd.prog 48 _ _ (fun e w' => e = .returned (.bool (Lib.containsS levL0 x)) ∧ w' = wr.alloc (.cells (levL0.map Value.string).toArray 9))).mono ?_; rintro e w2 ⟨rfl, rfl⟩; rw [HC.out]))
     all_goals
      go_returns
      exact ⟨_, rfl, by rw [HM.out, List.any_eq_true.2 ⟨levL0, by simp [levs], HC.out⟩]; rfl, bl⟩
   ·
    have c0 : wr.cell? ⟨w.heap.size, 1, none⟩ = some (.string ⟨#[63]⟩) := hcell.out 1 (by decide)
    have hL : levL1.length = 1 := by decide +kernel
    cases hc : Lib.containsS levL1 x
    ·
     have HC := hide hc
     clear hc
     go_wp2_with (first
      | (go_at_call 66; refine (fields_at levL1 _ _ (HT.out.on bl) (by decide +kernel) (by decide +kernel) (by decide +kernel)).mono ?_; rintro e w1 ⟨rfl, rfl⟩; rw [hL])
      | (go_at_call 48; refine (show _ from by have hF := Tryd.slices_Contains_string wr.heap.size 0 1 1 levL1 x (wr.alloc (.cells (levL1.map Value.string).toArray 9)) (by omega) (by omega) (fun j hj => by simpa using strs_cell levL1 wr j hj); rw [show levL1.take 1 = levL1 by rw [← hL]; exact List.take_length] at hF; exact hF : Calls Tryd.prog 48 _ _ (fun e w' => e = .returned (.bool (Lib.containsS levL1 x)) ∧ w' = wr.alloc (.cells (levL1.map Value.string).toArray 9))).mono ?_; rintro e w2 ⟨rfl, rfl⟩; rw [HC.out]))
     go_roundw
     case rel => exact ⟨2, by go_num, by omega, hide (fun j hj => by
      by_cases e : j = 1
      ·
       subst e; exact HC.out
      ·
       exact hK.out j (by omega)), bl⟩
     case measure => simp [intOf]
    ·
     have HC := hide hc
     clear hc
     go_wp2_with (first
      | (go_at_call 66; refine (fields_at levL1 _ _ (HT.out.on bl) (by decide +kernel) (by decide +kernel) (by decide +kernel)).mono ?_; rintro e w1 ⟨rfl, rfl⟩; rw [hL])
      | (go_at_call 48; refine (show _ from by have hF := Tryd.slices_Contains_string wr.heap.size 0 1 1 levL1 x (wr.alloc (.cells (levL1.map Value.string).toArray 9)) (by omega) (by omega) (fun j hj => by simpa using strs_cell levL1 wr j hj); rw [show levL1.take 1 = levL1 by rw [← hL]; exact List.take_length] at hF; exact hF : Calls Tryd.prog 48 _ _ (fun e w' => e = .returned (.bool (Lib.containsS levL1 x)) ∧ w' = wr.alloc (.cells (levL1.map Value.string).toArray 9))).mono ?_; rintro e w2 ⟨rfl, rfl⟩; rw [HC.out]))
     all_goals
      go_returns
      exact ⟨_, rfl, by rw [HM.out, List.any_eq_true.2 ⟨levL1, by simp [levs], HC.out⟩]; rfl, bl⟩
   ·
    have c0 : wr.cell? ⟨w.heap.size, 2, none⟩ = some (.string ⟨#[58, 61, 32, 60, 45, 32, 58, 61, 58, 32, 60, 45, 62, 32, 43, 58, 61, 32, 45, 58, 61, 32, 42, 58, 61, 32, 47, 58, 61, 32, 37, 58, 61, 32, 94, 58, 61, 32, 124, 124, 58, 61, 32, 124, 124, 124, 58, 61, 32, 43, 43, 58, 61, 32, 45, 45, 58, 61, 32, 42, 42, 58, 61]⟩) := hcell.out 2 (by decide)
    have hL : levL2.length = 15 := by decide +kernel
    cases hc : Lib.containsS levL2 x
    ·
     have HC := hide hc
     clear hc
     go_wp2_with (first
      | (go_at_call 66; refine (fields_at levL2 _ _ (HT.out.on bl) (by decide +kernel) (by decide +kernel) (by decide +kernel)).mono ?_; rintro e w1 ⟨rfl, rfl⟩; rw [hL])
      | (go_at_call 48; refine (show _ from by have hF := Tryd.slices_Contains_string wr.heap.size 0 15 15 levL2 x (wr.alloc (.cells (levL2.map Value.string).toArray 9)) (by omega) (by omega) (fun j hj => by simpa using strs_cell levL2 wr j hj); rw [show levL2.take 15 = levL2 by rw [← hL]; exact List.take_length] at hF; exact hF : Calls Tryd.prog 48 _ _ (fun e w' => e = .returned (.bool (Lib.containsS levL2 x)) ∧ w' = wr.alloc (.cells (levL2.map Value.string).toArray 9))).mono ?_; rintro e w2 ⟨rfl, rfl⟩; rw [HC.out]))
     go_roundw
     case rel => exact ⟨3, by go_num, by omega, hide (fun j hj => by
      by_cases e : j = 2
      ·
       subst e; exact HC.out
      ·
       exact hK.out j (by omega)), bl⟩
     case measure => simp [intOf]
    ·
     have HC := hide hc
     clear hc
     go_wp2_with (first
      | (go_at_call 66; refine (fields_at levL2 _ _ (HT.out.on bl) (by decide +kernel) (by decide +kernel) (by decide +kernel)).mono ?_; rintro e w1 ⟨rfl, rfl⟩; rw [hL])
      | (go_at_call 48; refine (show _ from by have hF := Tryd.slices_Contains_string wr.heap.size 0 15 15 levL2 x (wr.alloc (.cells (levL2.map Value.string).toArray 9)) (by omega) (by omega) (fun j hj => by simpa using strs_cell levL2 wr j hj); rw [show levL2.take 15 = levL2 by rw [← hL]; exact List.take_length] at hF; exact hF : Calls Tryd.prog 48 _ _ (fun e w' => e = .returned (.bool (Lib.containsS levL2 x)) ∧ w' = wr.alloc (.cells (levL2.map Value.string).toArray 9))).mono ?_; rintro e w2 ⟨rfl, rfl⟩; rw [HC.out]))
     all_goals
      go_returns
      exact ⟨_, rfl, by rw [HM.out, List.any_eq_true.2 ⟨levL2, by simp [levs], HC.out⟩]; rfl, bl⟩
   ·
    have c0 : wr.cell? ⟨w.heap.size, 3, none⟩ = some (.string ⟨#[]⟩) := hcell.out 3 (by decide)
    have hL : levL3.length = 0 := by decide +kernel
    cases hc : Lib.containsS levL3 x
    ·
     have HC := hide hc
     clear hc
     go_wp2_with (first
      | (go_at_call 66; refine (fields_at levL3 _ _ (HT.out.on bl) (by decide +kernel) (by decide +kernel) (by decide +kernel)).mono ?_; rintro e w1 ⟨rfl, rfl⟩; rw [hL])
      | (go_at_call 48; refine (show _ from by have hF := Tryd.slices_Contains_string wr.heap.size 0 0 0 levL3 x (wr.alloc (.cells (levL3.map Value.string).toArray 9)) (by omega) (by omega) (fun j hj => by simpa using strs_cell levL3 wr j hj); rw [show levL3.take 0 = levL3 by rw [← hL]; exact List.take_length] at hF; exact hF : Calls Tryd.prog 48 _ _ (fun e w' => e = .returned (.bool (Lib.containsS levL3 x)) ∧ w' = wr.alloc (.cells (levL3.map Value.string).toArray 9))).mono ?_; rintro e w2 ⟨rfl, rfl⟩; rw [HC.out]))
     go_roundw
     case rel => exact ⟨4, by go_num, by omega, hide (fun j hj => by
      by_cases e : j = 3
      ·
       subst e; exact HC.out
      ·
       exact hK.out j (by omega)), bl⟩
     case measure => simp [intOf]
    ·
     have HC := hide hc
     clear hc
     go_wp2_with (first
      | (go_at_call 66; refine (fields_at levL3 _ _ (HT.out.on bl) (by decide +kernel) (by decide +kernel) (by decide +kernel)).mono ?_; rintro e w1 ⟨rfl, rfl⟩; rw [hL])
      | (go_at_call 48; refine (show _ from by have hF := Tryd.slices_Contains_string wr.heap.size 0 0 0 levL3 x (wr.alloc (.cells (levL3.map Value.string).toArray 9)) (by omega) (by omega) (fun j hj => by simpa using strs_cell levL3 wr j hj); rw [show levL3.take 0 = levL3 by rw [← hL]; exact List.take_length] at hF; exact hF : Calls Tryd.prog 48 _ _ (fun e w' => e = .returned (.bool (Lib.containsS levL3 x)) ∧ w' = wr.alloc (.cells (levL3.map Value.string).toArray 9))).mono ?_; rintro e w2 ⟨rfl, rfl⟩; rw [HC.out]))
     all_goals
      go_returns
      exact ⟨_, rfl, by rw [HM.out, List.any_eq_true.2 ⟨levL3, by simp [levs], HC.out⟩]; rfl, bl⟩
   ·
    have c0 : wr.cell? ⟨w.heap.size, 4, none⟩ = some (.string ⟨#[124, 32, 46, 124]⟩) := hcell.out 4 (by decide)
    have hL : levL4.length = 2 := by decide +kernel
    cases hc : Lib.containsS levL4 x
    ·
     have HC := hide hc
     clear hc
     go_wp2_with (first
      | (go_at_call 66; refine (fields_at levL4 _ _ (HT.out.on bl) (by decide +kernel) (by decide +kernel) (by decide +kernel)).mono ?_; rintro e w1 ⟨rfl, rfl⟩; rw [hL])
      | (go_at_call 48; refine (show _ from by have hF := Tryd.slices_Contains_string wr.heap.size 0 2 2 levL4 x (wr.alloc (.cells (levL4.map Value.string).toArray 9)) (by omega) (by omega) (fun j hj => by simpa using strs_cell levL4 wr j hj); rw [show levL4.take 2 = levL4 by rw [← hL]; exact List.take_length] at hF; exact hF : Calls Tryd.prog 48 _ _ (fun e w' => e = .returned (.bool (Lib.containsS levL4 x)) ∧ w' = wr.alloc (.cells (levL4.map Value.string).toArray 9))).mono ?_; rintro e w2 ⟨rfl, rfl⟩; rw [HC.out]))
     go_roundw
     case rel => exact ⟨5, by go_num, by omega, hide (fun j hj => by
      by_cases e : j = 4
      ·
       subst e; exact HC.out
      ·
       exact hK.out j (by omega)), bl⟩
     case measure => simp [intOf]
    ·
     have HC := hide hc
     clear hc
     go_wp2_with (first
      | (go_at_call 66; refine (fields_at levL4 _ _ (HT.out.on bl) (by decide +kernel) (by decide +kernel) (by decide +kernel)).mono ?_; rintro e w1 ⟨rfl, rfl⟩; rw [hL])
      | (go_at_call 48; refine (show _ from by have hF := Tryd.slices_Contains_string wr.heap.size 0 2 2 levL4 x (wr.alloc (.cells (levL4.map Value.string).toArray 9)) (by omega) (by omega) (fun j hj => by simpa using strs_cell levL4 wr j hj); rw [show levL4.take 2 = levL4 by rw [← hL]; exact List.take_length] at hF; exact hF : Calls Tryd.prog 48 _ _ (fun e w' => e = .returned (.bool (Lib.containsS levL4 x)) ∧ w' = wr.alloc (.cells (levL4.map Value.string).toArray 9))).mono ?_; rintro e w2 ⟨rfl, rfl⟩; rw [HC.out]))
     all_goals
      go_returns
      exact ⟨_, rfl, by rw [HM.out, List.any_eq_true.2 ⟨levL4, by simp [levs], HC.out⟩]; rfl, bl⟩
   ·
    have c0 : wr.cell? ⟨w.heap.size, 5, none⟩ = some (.string ⟨#[60, 32, 60, 61, 32, 61, 32, 62, 61, 32, 62, 32, 126, 61, 32, 60, 60, 32, 60, 60, 61, 32, 61, 61, 32, 62, 62, 61, 32, 62, 62, 32, 126, 61, 61, 32, 61, 61, 61, 32, 126, 61, 61, 61, 32, 63, 63]⟩) := hcell.out 5 (by decide)
    have hL : levL5.length = 15 := by decide +kernel
    cases hc : Lib.containsS levL5 x
    ·
     have HC := hide hc
     clear hc
     go_wp2_with (first
      | (go_at_call 66; refine (fields_at levL5 _ _ (HT.out.on bl) (by decide +kernel) (by decide +kernel) (by decide +kernel)).mono ?_; rintro e w1 ⟨rfl, rfl⟩; rw [hL])
      | (go_at_call 48; refine (show _ from by have hF := Tryd.slices_Contains_string wr.heap.size 0 15 15 levL5 x (wr.alloc (.cells (levL5.map Value.string).toArray 9)) (by omega) (by omega) (fun j hj => by simpa using strs_cell levL5 wr j hj); rw [show levL5.take 15 = levL5 by rw [← hL]; exact List.take_length] at hF; exact hF : Calls Tryd.prog 48 _ _ (fun e w' => e = .returned (.bool (Lib.containsS levL5 x)) ∧ w' = wr.alloc (.cells (levL5.map Value.string).toArray 9))).mono ?_; rintro e w2 ⟨rfl, rfl⟩; rw [HC.out]))
     go_roundw
     case rel => exact ⟨6, by go_num, by omega, hide (fun j hj => by
      by_cases e : j = 5
      ·
       subst e; exact HC.out
      ·
       exact hK.out j (by omega)), bl⟩
     case measure => simp [intOf]
    ·
     have HC := hide hc
     clear hc
     go_wp2_with (first
      | (go_at_call 66; refine (fields_at levL5 _ _ (HT.out.on bl) (by decide +kernel) (by decide +kernel) (by decide +kernel)).mono ?_; rintro e w1 ⟨rfl, rfl⟩; rw [hL])
      | (go_at_call 48; refine (show _ from by have hF := Tryd.slices_Contains_string wr.heap.size 0 15 15 levL5 x (wr.alloc (.cells (levL5.map Value.string).toArray 9)) (by omega) (by omega) (fun j hj => by simpa using strs_cell levL5 wr j hj); rw [show levL5.take 15 = levL5 by rw [← hL]; exact List.take_length] at hF; exact hF : Calls Tryd.prog 48 _ _ (fun e w' => e = .returned (.bool (Lib.containsS levL5 x)) ∧ w' = wr.alloc (.cells (levL5.map Value.string).toArray 9))).mono ?_; rintro e w2 ⟨rfl, rfl⟩; rw [HC.out]))
     all_goals
      go_returns
      exact ⟨_, rfl, by rw [HM.out, List.any_eq_true.2 ⟨levL5, by simp [levs], HC.out⟩]; rfl, bl⟩
   ·
    have c0 : wr.cell? ⟨w.heap.size, 6, none⟩ = some (.string ⟨#[124, 124, 32, 124, 124, 124]⟩) := hcell.out 6 (by decide)
    have hL : levL6.length = 2 := by decide +kernel
    cases hc : Lib.containsS levL6 x
    ·
     have HC := hide hc
     clear hc
     go_wp2_with (first
      | (go_at_call 66; refine (fields_at levL6 _ _ (HT.out.on bl) (by decide +kernel) (by decide +kernel) (by decide +kernel)).mono ?_; rintro e w1 ⟨rfl, rfl⟩; rw [hL])
      | (go_at_call 48; refine (show _ from by have hF := Tryd.slices_Contains_string wr.heap.size 0 2 2 levL6 x (wr.alloc (.cells (levL6.map Value.string).toArray 9)) (by omega) (by omega) (fun j hj => by simpa using strs_cell levL6 wr j hj); rw [show levL6.take 2 = levL6 by rw [← hL]; exact List.take_length] at hF; exact hF : Calls Tryd.prog 48 _ _ (fun e w' => e = .returned (.bool (Lib.containsS levL6 x)) ∧ w' = wr.alloc (.cells (levL6.map Value.string).toArray 9))).mono ?_; rintro e w2 ⟨rfl, rfl⟩; rw [HC.out]))
     go_roundw
     case rel => exact ⟨7, by go_num, by omega, hide (fun j hj => by
      by_cases e : j = 6
      ·
       subst e; exact HC.out
      ·
       exact hK.out j (by omega)), bl⟩
     case measure => simp [intOf]
    ·
     have HC := hide hc
     clear hc
     go_wp2_with (first
      | (go_at_call 66; refine (fields_at levL6 _ _ (HT.out.on bl) (by decide +kernel) (by decide +kernel) (by decide +kernel)).mono ?_; rintro e w1 ⟨rfl, rfl⟩; rw [hL])
      | (go_at_call 48; refine (show _ from by have hF := Tryd.slices_Contains_string wr.heap.size 0 2 2 levL6 x (wr.alloc (.cells (levL6.map Value.string).toArray 9)) (by omega) (by omega) (fun j hj => by simpa using strs_cell levL6 wr j hj); rw [show levL6.take 2 = levL6 by rw [← hL]; exact List.take_length] at hF; exact hF : Calls Tryd.prog 48 _ _ (fun e w' => e = .returned (.bool (Lib.containsS levL6 x)) ∧ w' = wr.alloc (.cells (levL6.map Value.string).toArray 9))).mono ?_; rintro e w2 ⟨rfl, rfl⟩; rw [HC.out]))
     all_goals
      go_returns
      exact ⟨_, rfl, by rw [HM.out, List.any_eq_true.2 ⟨levL6, by simp [levs], HC.out⟩]; rfl, bl⟩
   ·
    have c0 : wr.cell? ⟨w.heap.size, 7, none⟩ = some (.string ⟨#[43, 32, 45, 32, 43, 43, 32, 45, 45]⟩) := hcell.out 7 (by decide)
    have hL : levL7.length = 4 := by decide +kernel
    cases hc : Lib.containsS levL7 x
    ·
     have HC := hide hc
     clear hc
     go_wp2_with (first
      | (go_at_call 66; refine (fields_at levL7 _ _ (HT.out.on bl) (by decide +kernel) (by decide +kernel) (by decide +kernel)).mono ?_; rintro e w1 ⟨rfl, rfl⟩; rw [hL])
      | (go_at_call 48; refine (show _ from by have hF := Tryd.slices_Contains_string wr.heap.size 0 4 4 levL7 x (wr.alloc (.cells (levL7.map Value.string).toArray 9)) (by omega) (by omega) (fun j hj => by simpa using strs_cell levL7 wr j hj); rw [show levL7.take 4 = levL7 by rw [← hL]; exact List.take_length] at hF; exact hF : Calls Tryd.prog 48 _ _ (fun e w' => e = .returned (.bool (Lib.containsS levL7 x)) ∧ w' = wr.alloc (.cells (levL7.map Value.string).toArray 9))).mono ?_; rintro e w2 ⟨rfl, rfl⟩; rw [HC.out]))
     go_roundw
     case rel => exact ⟨8, by go_num, by omega, hide (fun j hj => by
      by_cases e : j = 7
      ·
       subst e; exact HC.out
      ·
       exact hK.out j (by omega)), bl⟩
     case measure => simp [intOf]
    ·
     have HC := hide hc
     clear hc
     go_wp2_with (first
      | (go_at_call 66; refine (fields_at levL7 _ _ (HT.out.on bl) (by decide +kernel) (by decide +kernel) (by decide +kernel)).mono ?_; rintro e w1 ⟨rfl, rfl⟩; rw [hL])
      | (go_at_call 48; refine (show _ from by have hF := Tryd.slices_Contains_string wr.heap.size 0 4 4 levL7 x (wr.alloc (.cells (levL7.map Value.string).toArray 9)) (by omega) (by omega) (fun j hj => by simpa using strs_cell levL7 wr j hj); rw [show levL7.take 4 = levL7 by rw [← hL]; exact List.take_length] at hF; exact hF : Calls Tryd.prog 48 _ _ (fun e w' => e = .returned (.bool (Lib.containsS levL7 x)) ∧ w' = wr.alloc (.cells (levL7.map Value.string).toArray 9))).mono ?_; rintro e w2 ⟨rfl, rfl⟩; rw [HC.out]))
     all_goals
      go_returns
      exact ⟨_, rfl, by rw [HM.out, List.any_eq_true.2 ⟨levL7, by simp [levs], HC.out⟩]; rfl, bl⟩
   ·
    have c0 : wr.cell? ⟨w.heap.size, 8, none⟩ = some (.string ⟨#[42, 32, 47, 32, 37, 32, 42, 42]⟩) := hcell.out 8 (by decide)
    have hL : levL8.length = 4 := by decide +kernel
    cases hc : Lib.containsS levL8 x
    ·
     have HC := hide hc
     clear hc
     go_wp2_with (first
      | (go_at_call 66; refine (fields_at levL8 _ _ (HT.out.on bl) (by decide +kernel) (by decide +kernel) (by decide +kernel)).mono ?_; rintro e w1 ⟨rfl, rfl⟩; rw [hL])
      | (go_at_call 48; refine (show _ from by have hF := Tryd.slices_Contains_string wr.heap.size 0 4 4 levL8 x (wr.alloc (.cells (levL8.map Value.string).toArray 9)) (by omega) (by omega) (fun j hj => by simpa using strs_cell levL8 wr j hj); rw [show levL8.take 4 = levL8 by rw [← hL]; exact List.take_length] at hF; exact hF : Calls Tryd.prog 48 _ _ (fun e w' => e = .returned (.bool (Lib.containsS levL8 x)) ∧ w' = wr.alloc (.cells (levL8.map Value.string).toArray 9))).mono ?_; rintro e w2 ⟨rfl, rfl⟩; rw [HC.out]))
     go_roundw
     case rel => exact ⟨9, by go_num, by omega, hide (fun j hj => by
      by_cases e : j = 8
      ·
       subst e; exact HC.out
      ·
       exact hK.out j (by omega)), bl⟩
     case measure => simp [intOf]
    ·
     have HC := hide hc
     clear hc
     go_wp2_with (first
      | (go_at_call 66; refine (fields_at levL8 _ _ (HT.out.on bl) (by decide +kernel) (by decide +kernel) (by decide +kernel)).mono ?_; rintro e w1 ⟨rfl, rfl⟩; rw [hL])
      | (go_at_call 48; refine (show _ from by have hF := Tryd.slices_Contains_string wr.heap.size 0 4 4 levL8 x (wr.alloc (.cells (levL8.map Value.string).toArray 9)) (by omega) (by omega) (fun j hj => by simpa using strs_cell levL8 wr j hj); rw [show levL8.take 4 = levL8 by rw [← hL]; exact List.take_length] at hF; exact hF : Calls Tryd.prog 48 _ _ (fun e w' => e = .returned (.bool (Lib.containsS levL8 x)) ∧ w' = wr.alloc (.cells (levL8.map Value.string).toArray 9))).mono ?_; rintro e w2 ⟨rfl, rfl⟩; rw [HC.out]))
     all_goals
      go_returns
      exact ⟨_, rfl, by rw [HM.out, List.any_eq_true.2 ⟨levL8, by simp [levs], HC.out⟩]; rfl, bl⟩
   ·
    have c0 : wr.cell? ⟨w.heap.size, 9, none⟩ = some (.string ⟨#[94]⟩) := hcell.out 9 (by decide)
    have hL : levL9.length = 1 := by decide +kernel
    cases hc : Lib.containsS levL9 x
    ·
     have HC := hide hc
     clear hc
     go_wp2_with (first
      | (go_at_call 66; refine (fields_at levL9 _ _ (HT.out.on bl) (by decide +kernel) (by decide +kernel) (by decide +kernel)).mono ?_; rintro e w1 ⟨rfl, rfl⟩; rw [hL])
      | (go_at_call 48; refine (show _ from by have hF := Tryd.slices_Contains_string wr.heap.size 0 1 1 levL9 x (wr.alloc (.cells (levL9.map Value.string).toArray 9)) (by omega) (by omega) (fun j hj => by simpa using strs_cell levL9 wr j hj); rw [show levL9.take 1 = levL9 by rw [← hL]; exact List.take_length] at hF; exact hF : Calls Tryd.prog 48 _ _ (fun e w' => e = .returned (.bool (Lib.containsS levL9 x)) ∧ w' = wr.alloc (.cells (levL9.map Value.string).toArray 9))).mono ?_; rintro e w2 ⟨rfl, rfl⟩; rw [HC.out]))
     go_roundw
     case rel => exact ⟨10, by go_num, by omega, hide (fun j hj => by
      by_cases e : j = 9
      ·
       subst e; exact HC.out
      ·
       exact hK.out j (by omega)), bl⟩
     case measure => simp [intOf]
    ·
     have HC := hide hc
     clear hc
     go_wp2_with (first
      | (go_at_call 66; refine (fields_at levL9 _ _ (HT.out.on bl) (by decide +kernel) (by decide +kernel) (by decide +kernel)).mono ?_; rintro e w1 ⟨rfl, rfl⟩; rw [hL])
      | (go_at_call 48; refine (show _ from by have hF := Tryd.slices_Contains_string wr.heap.size 0 1 1 levL9 x (wr.alloc (.cells (levL9.map Value.string).toArray 9)) (by omega) (by omega) (fun j hj => by simpa using strs_cell levL9 wr j hj); rw [show levL9.take 1 = levL9 by rw [← hL]; exact List.take_length] at hF; exact hF : Calls Tryd.prog 48 _ _ (fun e w' => e = .returned (.bool (Lib.containsS levL9 x)) ∧ w' = wr.alloc (.cells (levL9.map Value.string).toArray 9))).mono ?_; rintro e w2 ⟨rfl, rfl⟩; rw [HC.out]))
     all_goals
      go_returns
      exact ⟨_, rfl, by rw [HM.out, List.any_eq_true.2 ⟨levL9, by simp [levs], HC.out⟩]; rfl, bl⟩
   ·
    have c0 : wr.cell? ⟨w.heap.size, 10, none⟩ = some (.string ⟨#[92, 32, 45, 62, 32, 61, 62]⟩) := hcell.out 10 (by decide)
    have hL : levL10.length = 3 := by decide +kernel
    cases hc : Lib.containsS levL10 x
    ·
     have HC := hide hc
     clear hc
     go_wp2_with (first
      | (go_at_call 66; refine (fields_at levL10 _ _ (HT.out.on bl) (by decide +kernel) (by decide +kernel) (by decide +kernel)).mono ?_; rintro e w1 ⟨rfl, rfl⟩; rw [hL])
      | (go_at_call 48; refine (show _ from by have hF := Tryd.slices_Contains_string wr.heap.size 0 3 3 levL10 x (wr.alloc (.cells (levL10.map Value.string).toArray 9)) (by omega) (by omega) (fun j hj => by simpa using strs_cell levL10 wr j hj); rw [show levL10.take 3 = levL10 by rw [← hL]; exact List.take_length] at hF; exact hF : Calls Tryd.prog 48 _ _ (fun e w' => e = .returned (.bool (Lib.containsS levL10 x)) ∧ w' = wr.alloc (.cells (levL10.map Value.string).toArray 9))).mono ?_; rintro e w2 ⟨rfl, rfl⟩; rw [HC.out]))
     go_roundw
     case rel => exact ⟨11, by go_num, by omega, hide (fun j hj => by
      by_cases e : j = 10
      ·
       subst e; exact HC.out
      ·
       exact hK.out j (by omega)), bl⟩
     case measure => simp [intOf]
    ·
     have HC := hide hc
     clear hc
     go_wp2_with (first
      | (go_at_call 66; refine (fields_at levL10 _ _ (HT.out.on bl) (by decide +kernel) (by decide +kernel) (by decide +kernel)).mono ?_; rintro e w1 ⟨rfl, rfl⟩; rw [hL])
      | (go_at_call 48; refine (show _ from by have hF := Tryd.slices_Contains_string wr.heap.size 0 3 3 levL10 x (wr.alloc (.cells (levL10.map Value.string).toArray 9)) (by omega) (by omega) (fun j hj => by simpa using strs_cell levL10 wr j hj); rw [show levL10.take 3 = levL10 by rw [← hL]; exact List.take_length] at hF; exact hF : Calls Tryd.prog 48 _ _ (fun e w' => e = .returned (.bool (Lib.containsS levL10 x)) ∧ w' = wr.alloc (.cells (levL10.map Value.string).toArray 9))).mono ?_; rintro e w2 ⟨rfl, rfl⟩; rw [HC.out]))
     all_goals
      go_returns
      exact ⟨_, rfl, by rw [HM.out, List.any_eq_true.2 ⟨levL10, by simp [levs], HC.out⟩]; rfl, bl⟩
  ·
   have hd : decide ((m : Int) < 11) = false := by simp; omega
   have HB := hide (show binB x = false by
    rw [HM.out, List.any_eq_false]
    intro l hl
    obtain ⟨j, hj, rfl⟩ := List.mem_iff_getElem.1 hl
    have := hK.out j (by have : levs.length = 11 := rfl; omega)
    rw [List.getD_eq_getElem?_getD, List.getElem?_eq_getElem hj] at this
    simp at this
    rw [this]; simp)
   go_wp2_with (fail)
   all_goals
    go_returns
    exact ⟨_, rfl, by rw [HB.out]; rfl, bl⟩
end Go.Proofs.YtdacpljinffnaaaDoor
namespace Go.Proofs.YtdacpljinffnaaaDoor
set_option linter.unusedVariables false
set_option linter.unusedSimpArgs false
set_option maxRecDepth 100000
open Go.RowKit
set_option maxHeartbeats 1000000 in
theorem isCset_any (s : ByteArray) (w : World) (hs : s.size ≤ maxLen) :
  Calls Tryd.prog 60 #[.string s] w fun e w' => e = .returned (.bool (ascB s)) ∧ Bel w w' := by
 unfold maxLen at hs
 go_enter Tryd.func60, Tryd.ntmps60
 go_wp2_with (fail)
 go_loopw [3] (fun v wr => ∃ k : Nat, v = .int .i64 k ∧ k ≤ s.size ∧ Hid (∀ j, j < k → ascAt s j = true) ∧ Bel w wr) (fun v _ => s.size - (intOf v).toNat)
 case atStart => exact ⟨0, rfl, by omega, fun j hj => by omega, bl⟩
 case round =>
  obtain ⟨k, rfl, hk, hA, hbw⟩ := hrel
  by_cases h1 : k < s.size
  ·
   have hd : decide ((k : Int) < (s.size : Int)) = true := by simp; omega
   have hB := hide (byteAt_eq s k h1)
   by_cases h2 : byteAt s k ≤ 127
   ·
    have h3 : s[k].toNat ≤ 127 := by rw [hB.out]; exact h2
    have d3 : decide (127 < s[k].toNat) = false := by simp; omega
    have d3i : decide ((127 : Int) < (s[k].toNat : Int)) = false := by simp; omega
    rcases Nat.eq_zero_or_pos k with h0 | h0
    ·
     subst h0
     have HN := hide (show ascAt s 0 = true by unfold ascAt; rw [decide_eq_true h2]; rfl)
     go_wp2_with (fail)
     go_quiet (fail)
     go_wp2_with (fail)
     go_roundw
     case rel => exact ⟨1, by go_num, by omega, hide (fun j hj => by obtain rfl : j = 0 := (by omega); exact HN.out), bl⟩
     case measure => simp [intOf]; omega
    ·
     have h4 : k - 1 < s.size := by omega
     have hB4 := hide (byteAt_eq s (k - 1) h4)
     have d0 : decide ((0 : Int) < (k : Int)) = true := by simp; omega
     have d0n : decide (0 < k) = true := by simp; omega
     have ek : (k : Int) - 1 = ((k - 1 : Nat) : Int) := by omega
     by_cases h5 : byteAt s (k - 1) < byteAt s k
     ·
      have HN := hide (show ascAt s k = true by unfold ascAt; rw [decide_eq_true h2, decide_eq_true h5]; simp)
      have d5 : decide (s[k].toNat ≤ s[k - 1].toNat) = false := by rw [hB.out, hB4.out]; simp; omega
      have d5i : decide ((s[k].toNat : Int) ≤ (s[k - 1].toNat : Int)) = false := by rw [hB.out, hB4.out]; simp; omega
      go_wp2_with (fail)
      go_quiet (fail)
      go_wp2_with (fail)
      go_roundw
      case rel => exact ⟨k + 1, by go_num, by omega, hide (fun j hj => by
       by_cases e : j = k
       ·
        subst e; exact HN.out
       ·
        exact hA.out j (by omega)), bl⟩
      case measure => simp [intOf]; omega
     ·
      have HN := hide (ascB_no h1 (show ascAt s k = false by unfold ascAt; rw [decide_eq_false h5, decide_eq_false (show ¬ k = 0 by omega)]; simp))
      have d5 : decide (s[k].toNat ≤ s[k - 1].toNat) = true := by rw [hB.out, hB4.out]; simp; omega
      have d5i : decide ((s[k].toNat : Int) ≤ (s[k - 1].toNat : Int)) = true := by rw [hB.out, hB4.out]; simp; omega
      go_wp2_with (fail)
      go_quiet (fail)
      go_wp2_with (fail)
      all_goals
       go_returns
       exact ⟨by rw [HN.out]; first | done | rfl, bl⟩
   ·
    have h3 : 127 < s[k].toNat := by rw [hB.out]; omega
    have d3 : decide (127 < s[k].toNat) = true := by simp; omega
    have d3i : decide ((127 : Int) < (s[k].toNat : Int)) = true := by simp; omega
    have HN := hide (ascB_no h1 (show ascAt s k = false by unfold ascAt; rw [decide_eq_false h2]; rfl))
    go_wp2_with (fail)
    go_quiet (fail)
    go_wp2_with (fail)
    all_goals
     go_returns
     exact ⟨by rw [HN.out]; first | done | rfl, bl⟩
  ·
   have hd : decide ((k : Int) < (s.size : Int)) = false := by simp; omega
   have HN := hide (show ascB s = true from List.all_eq_true.2 fun j hj => hA.out j (by have := List.mem_range.1 hj; omega))
   go_wp2_with (fail)
   all_goals
    go_returns
    exact ⟨by rw [HN.out]; first | done | rfl, bl⟩
end Go.Proofs.YtdacpljinffnaaaDoor
