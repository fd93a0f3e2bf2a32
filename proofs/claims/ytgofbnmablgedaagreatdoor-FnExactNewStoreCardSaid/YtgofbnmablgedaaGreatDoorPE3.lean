/- OperatorText, OperatorArity: both sides. -/
import Derived.Test.YtgofbnmablgedaaGreatDoorPE2
namespace Go.Proofs.YtgofbnmablgedaaGreatDoor
set_option linter.unusedVariables false
set_option linter.unusedSimpArgs false
set_option maxRecDepth 100000
open Go.RowKit
theorem getD_lt (l : List ByteArray) (k : Nat) (h : k < l.length) : l.getD k ByteArray.empty = l[k] := by simp [List.getD, h]
def opT0 (n : Int) : ByteArray :=
 if 1 ≤ n ∧ n ≤ 11 then opsL.getD (n - 1).toNat ByteArray.empty
 else if 20 ≤ n ∧ n < 64 then binL.getD (n - 20).toNat ByteArray.empty
 else if 70 ≤ n ∧ n ≤ 79 then g70L.getD (n - 70).toNat ByteArray.empty
 else if n = 81 then ⟨#[100, 101, 102, 101, 114]⟩ else ByteArray.empty
def opBig (n : Int) : Prop := (220 ≤ n ∧ n ≤ 225) ∨ (250 ≤ n ∧ n ≤ 254)
instance (n : Int) : Decidable (opBig n) := by unfold opBig; infer_instance
def opT (n : Int) : ByteArray := if opBig n then opT0 (n - 200) ++ ⟨#[58, 61]⟩ else opT0 n
theorem opT0_g1 (n : Int) (h0 : 1 ≤ n) (h1 : n ≤ 11) : opT0 n = g1L.getD (n.toNat - 1) ByteArray.empty := by
 obtain ⟨k, hk⟩ := Int.eq_ofNat_of_zero_le (show 0 ≤ n - 1 by omega)
 obtain rfl : n = k + 1 := by omega
 have hk2 : k < 11 := by omega
 have := (by decide +kernel : ∀ k : Fin 11, opT0 ((k.val : Int) + 1) = g1L.getD (((k.val : Int) + 1).toNat - 1) ByteArray.empty) ⟨k, hk2⟩
 exact this
theorem opT0_g20 (n : Int) (h0 : 20 ≤ n) (h1 : n ≤ 25) : opT0 n = g20L.getD ((n - 20).toNat) ByteArray.empty := by
 obtain ⟨k, hk⟩ := Int.eq_ofNat_of_zero_le (show 0 ≤ n - 20 by omega)
 obtain rfl : n = k + 20 := by omega
 have hk2 : k < 6 := by omega
 have := (by decide +kernel : ∀ k : Fin 6, opT0 ((k.val : Int) + 20) = g20L.getD (((k.val : Int) + 20 - 20).toNat) ByteArray.empty) ⟨k, hk2⟩
 exact this
theorem opT0_g30 (n : Int) (h0 : 30 ≤ n) (h1 : n ≤ 35) : opT0 n = g30L.getD ((n - 30).toNat) ByteArray.empty := by
 obtain ⟨k, hk⟩ := Int.eq_ofNat_of_zero_le (show 0 ≤ n - 30 by omega)
 obtain rfl : n = k + 30 := by omega
 have hk2 : k < 6 := by omega
 have := (by decide +kernel : ∀ k : Fin 6, opT0 ((k.val : Int) + 30) = g30L.getD (((k.val : Int) + 30 - 30).toNat) ByteArray.empty) ⟨k, hk2⟩
 exact this
theorem opT0_g40 (n : Int) (h0 : 40 ≤ n) (h1 : n ≤ 47) : opT0 n = g40L.getD ((n - 40).toNat) ByteArray.empty := by
 obtain ⟨k, hk⟩ := Int.eq_ofNat_of_zero_le (show 0 ≤ n - 40 by omega)
 obtain rfl : n = k + 40 := by omega
 have hk2 : k < 8 := by omega
 have := (by decide +kernel : ∀ k : Fin 8, opT0 ((k.val : Int) + 40) = g40L.getD (((k.val : Int) + 40 - 40).toNat) ByteArray.empty) ⟨k, hk2⟩
 exact this
theorem opT0_g50 (n : Int) (h0 : 50 ≤ n) (h1 : n ≤ 54) : opT0 n = g50L.getD ((n - 50).toNat) ByteArray.empty := by
 obtain ⟨k, hk⟩ := Int.eq_ofNat_of_zero_le (show 0 ≤ n - 50 by omega)
 obtain rfl : n = k + 50 := by omega
 have hk2 : k < 5 := by omega
 have := (by decide +kernel : ∀ k : Fin 5, opT0 ((k.val : Int) + 50) = g50L.getD (((k.val : Int) + 50 - 50).toNat) ByteArray.empty) ⟨k, hk2⟩
 exact this
theorem opT0_g60 (n : Int) (h0 : 60 ≤ n) (h1 : n ≤ 63) : opT0 n = g60L.getD ((n - 60).toNat) ByteArray.empty := by
 obtain ⟨k, hk⟩ := Int.eq_ofNat_of_zero_le (show 0 ≤ n - 60 by omega)
 obtain rfl : n = k + 60 := by omega
 have hk2 : k < 4 := by omega
 have := (by decide +kernel : ∀ k : Fin 4, opT0 ((k.val : Int) + 60) = g60L.getD (((k.val : Int) + 60 - 60).toNat) ByteArray.empty) ⟨k, hk2⟩
 exact this
theorem opT0_g70 (n : Int) (h0 : 70 ≤ n) (h1 : n ≤ 79) : opT0 n = g70L.getD ((n - 70).toNat) ByteArray.empty := by
 obtain ⟨k, hk⟩ := Int.eq_ofNat_of_zero_le (show 0 ≤ n - 70 by omega)
 obtain rfl : n = k + 70 := by omega
 have hk2 : k < 10 := by omega
 have := (by decide +kernel : ∀ k : Fin 10, opT0 ((k.val : Int) + 70) = g70L.getD (((k.val : Int) + 70 - 70).toNat) ByteArray.empty) ⟨k, hk2⟩
 exact this
set_option maxHeartbeats 400000 in
theorem implOT_g1 (n : Int) (w : World) (h0 : 1 ≤ n) (h1 : n ≤ 11) (ht : Sp w) :
  Calls Tryz.prog 99 #[.int .i64 n] w fun e w' => e = .returned (.string (opT0 n)) ∧ Bel w w' := by
 have hL : g1L.length = 11 := by decide +kernel
 have hw : IntKind.i64.wrap (n - 1) = n - 1 := by rw [IntKind.wrap_i64]; omega
 have i1 : 0 ≤ n - 1 := by omega
 have i2 : n - 1 < 11 := by omega
 have hk : n.toNat - 1 < g1L.length := by omega
 have hc := strs_cell g1L w (n.toNat - 1) hk
 rw [opT0_g1 n h0 h1, getD_lt _ _ hk]
 rw [getD_lt _ _ hk] at hc
 go_enter Tryz.func99, Tryz.ntmps99
 go_wp2_with (go_at_call 98; refine (fields_at g1L _ _ ht (by decide +kernel) (by decide +kernel) (by decide +kernel)).mono ?_; rintro e w1 ⟨rfl, rfl⟩; rw [hL])
 all_goals
  go_returns
  exact ⟨rfl, bl⟩
set_option maxHeartbeats 400000 in
theorem implOT_g20 (n : Int) (w : World) (h0 : 20 ≤ n) (h1 : n ≤ 25) (ht : Sp w) :
  Calls Tryz.prog 99 #[.int .i64 n] w fun e w' => e = .returned (.string (opT0 n)) ∧ Bel w w' := by
 have hL : g20L.length = 6 := by decide +kernel
 have hw : IntKind.i64.wrap (n - 20) = n - 20 := by rw [IntKind.wrap_i64]; omega
 have i1 : 0 ≤ n - 20 := by omega
 have i2 : n - 20 < 6 := by omega
 have hk : (n - 20).toNat < g20L.length := by omega
 have hc := strs_cell g20L w ((n - 20).toNat) hk
 rw [opT0_g20 n h0 h1, getD_lt _ _ hk]
 rw [getD_lt _ _ hk] at hc
 go_enter Tryz.func99, Tryz.ntmps99
 go_wp2_with (go_at_call 98; refine (fields_at g20L _ _ ht (by decide +kernel) (by decide +kernel) (by decide +kernel)).mono ?_; rintro e w1 ⟨rfl, rfl⟩; rw [hL])
 all_goals
  go_returns
  exact ⟨rfl, bl⟩
set_option maxHeartbeats 400000 in
theorem implOT_g30 (n : Int) (w : World) (h0 : 30 ≤ n) (h1 : n ≤ 35) (ht : Sp w) :
  Calls Tryz.prog 99 #[.int .i64 n] w fun e w' => e = .returned (.string (opT0 n)) ∧ Bel w w' := by
 have hL : g30L.length = 6 := by decide +kernel
 have hw : IntKind.i64.wrap (n - 30) = n - 30 := by rw [IntKind.wrap_i64]; omega
 have i1 : 0 ≤ n - 30 := by omega
 have i2 : n - 30 < 6 := by omega
 have hk : (n - 30).toNat < g30L.length := by omega
 have hc := strs_cell g30L w ((n - 30).toNat) hk
 rw [opT0_g30 n h0 h1, getD_lt _ _ hk]
 rw [getD_lt _ _ hk] at hc
 go_enter Tryz.func99, Tryz.ntmps99
 go_wp2_with (go_at_call 98; refine (fields_at g30L _ _ ht (by decide +kernel) (by decide +kernel) (by decide +kernel)).mono ?_; rintro e w1 ⟨rfl, rfl⟩; rw [hL])
 all_goals
  go_returns
  exact ⟨rfl, bl⟩
set_option maxHeartbeats 400000 in
theorem implOT_g40 (n : Int) (w : World) (h0 : 40 ≤ n) (h1 : n ≤ 47) (ht : Sp w) :
  Calls Tryz.prog 99 #[.int .i64 n] w fun e w' => e = .returned (.string (opT0 n)) ∧ Bel w w' := by
 have hL : g40L.length = 8 := by decide +kernel
 have hw : IntKind.i64.wrap (n - 40) = n - 40 := by rw [IntKind.wrap_i64]; omega
 have i1 : 0 ≤ n - 40 := by omega
 have i2 : n - 40 < 8 := by omega
 have hk : (n - 40).toNat < g40L.length := by omega
 have hc := strs_cell g40L w ((n - 40).toNat) hk
 rw [opT0_g40 n h0 h1, getD_lt _ _ hk]
 rw [getD_lt _ _ hk] at hc
 go_enter Tryz.func99, Tryz.ntmps99
 go_wp2_with (go_at_call 98; refine (fields_at g40L _ _ ht (by decide +kernel) (by decide +kernel) (by decide +kernel)).mono ?_; rintro e w1 ⟨rfl, rfl⟩; rw [hL])
 all_goals
  go_returns
  exact ⟨rfl, bl⟩
set_option maxHeartbeats 400000 in
theorem implOT_g50 (n : Int) (w : World) (h0 : 50 ≤ n) (h1 : n ≤ 54) (ht : Sp w) :
  Calls Tryz.prog 99 #[.int .i64 n] w fun e w' => e = .returned (.string (opT0 n)) ∧ Bel w w' := by
 have hL : g50L.length = 5 := by decide +kernel
 have hw : IntKind.i64.wrap (n - 50) = n - 50 := by rw [IntKind.wrap_i64]; omega
 have i1 : 0 ≤ n - 50 := by omega
 have i2 : n - 50 < 5 := by omega
 have hk : (n - 50).toNat < g50L.length := by omega
 have hc := strs_cell g50L w ((n - 50).toNat) hk
 rw [opT0_g50 n h0 h1, getD_lt _ _ hk]
 rw [getD_lt _ _ hk] at hc
 go_enter Tryz.func99, Tryz.ntmps99
 go_wp2_with (go_at_call 98; refine (fields_at g50L _ _ ht (by decide +kernel) (by decide +kernel) (by decide +kernel)).mono ?_; rintro e w1 ⟨rfl, rfl⟩; rw [hL])
 all_goals
  go_returns
  exact ⟨rfl, bl⟩
set_option maxHeartbeats 400000 in
theorem implOT_g60 (n : Int) (w : World) (h0 : 60 ≤ n) (h1 : n ≤ 63) (ht : Sp w) :
  Calls Tryz.prog 99 #[.int .i64 n] w fun e w' => e = .returned (.string (opT0 n)) ∧ Bel w w' := by
 have hL : g60L.length = 4 := by decide +kernel
 have hw : IntKind.i64.wrap (n - 60) = n - 60 := by rw [IntKind.wrap_i64]; omega
 have i1 : 0 ≤ n - 60 := by omega
 have i2 : n - 60 < 4 := by omega
 have hk : (n - 60).toNat < g60L.length := by omega
 have hc := strs_cell g60L w ((n - 60).toNat) hk
 rw [opT0_g60 n h0 h1, getD_lt _ _ hk]
 rw [getD_lt _ _ hk] at hc
 go_enter Tryz.func99, Tryz.ntmps99
 go_wp2_with (go_at_call 98; refine (fields_at g60L _ _ ht (by decide +kernel) (by decide +kernel) (by decide +kernel)).mono ?_; rintro e w1 ⟨rfl, rfl⟩; rw [hL])
 all_goals
  go_returns
  exact ⟨rfl, bl⟩
set_option maxHeartbeats 400000 in
theorem implOT_g70 (n : Int) (w : World) (h0 : 70 ≤ n) (h1 : n ≤ 79) (ht : Sp w) :
  Calls Tryz.prog 99 #[.int .i64 n] w fun e w' => e = .returned (.string (opT0 n)) ∧ Bel w w' := by
 have hL : g70L.length = 10 := by decide +kernel
 have hw : IntKind.i64.wrap (n - 70) = n - 70 := by rw [IntKind.wrap_i64]; omega
 have i1 : 0 ≤ n - 70 := by omega
 have i2 : n - 70 < 10 := by omega
 have hk : (n - 70).toNat < g70L.length := by omega
 have hc := strs_cell g70L w ((n - 70).toNat) hk
 rw [opT0_g70 n h0 h1, getD_lt _ _ hk]
 rw [getD_lt _ _ hk] at hc
 go_enter Tryz.func99, Tryz.ntmps99
 go_wp2_with (go_at_call 98; refine (fields_at g70L _ _ ht (by decide +kernel) (by decide +kernel) (by decide +kernel)).mono ?_; rintro e w1 ⟨rfl, rfl⟩; rw [hL])
 all_goals
  go_returns
  exact ⟨rfl, bl⟩
end Go.Proofs.YtgofbnmablgedaaGreatDoor
