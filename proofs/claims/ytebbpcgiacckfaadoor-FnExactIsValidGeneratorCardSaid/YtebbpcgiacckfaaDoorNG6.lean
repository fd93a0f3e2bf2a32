/- Part of the proof: is a generator valid. -/
import Derived.Test.YtebbpcgiacckfaaDoorPS8
import Derived.Test.YtebbpcgiacckfaaDoorNG2c
import Derived.Test.YtebbpcgiacckfaaDoorNG4a
import Derived.Test.YtebbpcgiacckfaaDoorNG4d
import Derived.Test.YtebbpcgiacckfaaDoorNG5a
import Derived.Test.YtebbpcgiacckfaaDoorPHStore
import Derived.Test.YtebbpcgiacckfaaDoorNHGenerator
import Derived.Deep.RegionHeld3
namespace Go.Proofs.YtebbpcgiacckfaaDoor
set_option linter.unusedVariables false
set_option linter.unusedSimpArgs false
set_option maxRecDepth 100000
open Go.RowKit
--%quiet
theorem implGen_any (s : TStore) (kd op ct : Int) (l : List TValue) : GenI s kd op ct l := by
 cases hval : validB s
 ·
  exact implGen_bad s kd op ct l hval
 cases hall : inAllB s l
 ·
  exact implGen_no s kd op ct l hall hval
 by_cases h1 : kd = 1
 ·
  subst h1
  by_cases hlo : ct < 1
  ·
   exact implGen_ctlo s op ct l hlo hall hval
  by_cases hhi : 5000 < ct
  ·
   exact implGen_cthi s op ct l ⟨by omega, hhi⟩ hall hval
  have hc : 1 ≤ ct ∧ ct ≤ 5000 := by omega
  by_cases h7 : op = 7
  ·
   subst h7
   by_cases hl : l.length = 1
   ·
    exact implGen_7y s ct l hc hl hall hval
   ·
    exact implGen_7n s ct l hc hl hall hval
  by_cases h72 : op = 72
  ·
   subst h72
   by_cases hl : l.length = 3
   ·
    exact implGen_72y s ct l hc hl hall hval
   ·
    exact implGen_72n s ct l hc hl hall hval
  by_cases h338 : op = 338
  ·
   subst h338
   by_cases hl : l.length = 3
   ·
    exact implGen_338y s ct l hc hl hall hval
   ·
    exact implGen_338n s ct l hc hl hall hval
  by_cases h317 : op = 317
  ·
   subst h317
   by_cases hl : l.length = 1
   ·
    exact implGen_317y s ct l hc hl hall hval
   ·
    exact implGen_317n s ct l hc hl hall hval
  by_cases h320 : op = 320
  ·
   subst h320
   by_cases hl : l.length = 3
   ·
    exact implGen_320y s ct l hc hl hall hval
   ·
    exact implGen_320n s ct l hc hl hall hval
  by_cases h321 : op = 321
  ·
   subst h321
   by_cases hl : l.length = 3
   ·
    exact implGen_321y s ct l hc hl hall hval
   ·
    exact implGen_321n s ct l hc hl hall hval
  exact implGen_out1 s op ct l hc ⟨h7, h72, h338, h317, h320, h321⟩ hall hval
 by_cases h2 : kd = 2
 case neg => exact implGen_k2 s kd op ct l h1 h2 hall hval
 subst h2
 by_cases hc : ct = 0
 case neg => exact implGen_c2 s op ct l hc hall hval
 subst hc
 by_cases hn : 3 ≤ l.length
 case neg => exact implGen_n2 s op l (by omega) hall hval
 cases hp : placeB (vAt l 0) (vAt l 1)
 ·
  exact implGen_pl s op l hn hp hall hval
 by_cases hk : (vAt l 2).k = 1
 case neg => exact implGen_m2 s op l hn hp hk hall hval
 exact implGen_y2 s op l hn hp hk hall hval
set_option maxHeartbeats 8000000 in
theorem specGenX_any (s : TStore) (kd op ct : Int) (l : List TValue) (S S' : Nat → Prop) (w : World) (vs : List Value) (A : Option Addr) (c : Nat) (hv : Dat.HoldVals w S s.D vs) (hR : Row w S' 6 A c (l.map TValue.D)) : Calls Tryd.prog 20 #[.agg vs.toArray, .agg #[.int .i64 kd, .int .i64 op, .int .i64 ct, .slice A l.length c]] w fun e w' => e = .returned (.bool (validB s && genB s kd op ct l)) ∧ Bel w w' := by
 obtain ⟨x0, x1, x2, x3, x4, x5, x6, x7, x8, x9, x10, x11, x12⟩ := s
 have HV := hide hv
 obtain ⟨A0, c0, A1, c1, A2, c2, A3, c3, A6, c6, A7, c7, A8, c8, rfl, hlc0, hcm0, hlc1, hcm1, hlc2, hcm2, hlc3, hcm3, hlc6, hcm6, hlc7, hcm7, hlc8, hcm8, g4, g5, g10, g11, g12, HR0, HR1, HR2, HR3, HR6, HR7, HR8, HS1⟩ := TStore.opn 36 hv
 clear hv
 have HR := hide hR
 have hlen := hR.1
 have hcm := hR.2.1
 simp only [List.length_map] at hlen
 unfold maxLen at hcm
 clear hR
 obtain ⟨rb, hrb⟩ : ∃ rb, (validB (TStore.mk x0 x1 x2 x3 x4 x5 x6 x7 x8 x9 x10 x11 x12) && genB (TStore.mk x0 x1 x2 x3 x4 x5 x6 x7 x8 x9 x10 x11 x12) kd op ct l) = rb := ⟨_, rfl⟩
 rw [hrb]
 cases hb : validB (TStore.mk x0 x1 x2 x3 x4 x5 x6 x7 x8 x9 x10 x11 x12)
 ·
  have RR := hide (show rb = false by rw [← hrb, hb]; rfl)
  have HB := hide hb
  clear hb hrb
  go_enter Tryd.func20, Tryd.ntmps20
  have mkq := True.intro
  repeat (any_goals ((first | clear mkq | go_quiet (fail)); (try go_wp2_with (first | (go_at_call 8; refine (specValid_any (TStore.mk x0 x1 x2 x3 x4 x5 x6 x7 x8 x9 x10 x11 x12) S _ _ (Dat.HoldVals.bel bl HV.out)).mono ?_; rintro e w1 ⟨rfl, hb1⟩; rw [HB.out]; (have hz1 := hb1.sz; obtain ⟨hk1_0, hf1_0, hl1_0, hn1_0⟩ := hb1.lay (w.heap.size); obtain ⟨hk1_1, hf1_1, hl1_1, hn1_1⟩ := hb1.lay (w.heap.size + 1)))))))
  all_goals
   go_returns
   exact ⟨by rw [RR.out]; first | done | rfl, bl⟩
 ·
  have HB := hide hb
  obtain ⟨gb, hg⟩ : ∃ gb, genB (TStore.mk x0 x1 x2 x3 x4 x5 x6 x7 x8 x9 x10 x11 x12) kd op ct l = gb := ⟨_, rfl⟩
  have HG := hide hg
  have RR := hide (show rb = gb by rw [← hrb, hb, hg]; rfl)
  clear hb hg hrb
  go_enter Tryd.func20, Tryd.ntmps20
  have mkq := True.intro
  repeat (any_goals ((first | clear mkq | go_quiet (fail)); (try go_wp2_with (first | (go_at_call 8; refine (specValid_any (TStore.mk x0 x1 x2 x3 x4 x5 x6 x7 x8 x9 x10 x11 x12) S _ _ (Dat.HoldVals.bel bl HV.out)).mono ?_; rintro e w1 ⟨rfl, hb1⟩; rw [HB.out]; (have hz1 := hb1.sz; obtain ⟨hk1_0, hf1_0, hl1_0, hn1_0⟩ := hb1.lay (w.heap.size); obtain ⟨hk1_1, hf1_1, hl1_1, hn1_1⟩ := hb1.lay (w.heap.size + 1))) | (go_at_call 56; refine (specGen_any (TStore.mk x0 x1 x2 x3 x4 x5 x6 x7 x8 x9 x10 x11 x12) kd op ct l S S' w.heap.size _ A c (StoreAt.bel bl HS1.out) (Row.bel bl HR.out)).mono ?_; rintro e w2 ⟨rfl, hb2⟩; rw [HG.out])))))
  all_goals
   go_returns
   exact ⟨by rw [RR.out]; first | done | rfl, bl⟩
end Go.Proofs.YtebbpcgiacckfaaDoor
namespace Go.Proofs.YtebbpcgiacckfaaDoor
set_option linter.unusedVariables false
set_option linter.unusedSimpArgs false
set_option maxRecDepth 100000
open Go.RowKit
def genI (t : TStore) (g : TGenerator) : Bool := match g with | .mk kd op ct l => validB t && genB t kd op ct l
theorem specIsValidGenerator_law (t : TStore) (x : TGenerator) (w : World) (htab : Sp w) (S : Nat → Prop) (vs : List Value) (hv : Dat.HoldVals w S t.D vs) (_ : Dat.wtL t.D ≤ 1048576) (S' : Nat → Prop) (vs' : List Value) (hv' : Dat.HoldVals w S' x.D vs') (_ : Dat.wtL x.D ≤ 1048576) :
  Calls Tryd.prog 20 #[.agg vs.toArray, .agg vs'.toArray] w fun e w' => e = .returned (.bool (genI t x)) ∧ Bel w w' := by
 obtain ⟨kd, op, ct, l⟩ := x
 obtain ⟨A, c, rfl, -, -, -, hR⟩ := TGenerator.vals hv'
 exact specGenX_any t kd op ct l S S' w vs A c hv hR
theorem implIsValidGenerator_law (t : TStore) (x : TGenerator) (w : World) (htab : Sp w) (S : Nat → Prop) (vs : List Value) (hv : Dat.HoldVals w S t.D vs) (_ : Dat.wtL t.D ≤ 1048576) (S' : Nat → Prop) (vs' : List Value) (hv' : Dat.HoldVals w S' x.D vs') (_ : Dat.wtL x.D ≤ 1048576) :
  Calls Tryd.prog 22 #[.agg vs.toArray, .agg vs'.toArray] w fun e w' => e = .returned (.bool (genI t x)) ∧ Bel w w' := by
 obtain ⟨kd, op, ct, l⟩ := x
 obtain ⟨A, c, rfl, -, -, -, hR⟩ := TGenerator.vals hv'
 exact implGen_any t kd op ct l S S' w vs A c htab hv hR
end Go.Proofs.YtebbpcgiacckfaaDoor
namespace Go.Proofs.YtebbpcgiacckfaaDoor
set_option linter.unusedVariables false
set_option linter.unusedSimpArgs false
set_option maxRecDepth 100000
open Go.RowKit
set_option maxHeartbeats 20000000 in
theorem FnExactIsValidGenerator_walk (t0 : TStore) (vs0 : List Value) (t1 : TGenerator) (vs1 : List Value) (w : World) (hv0 : Dat.HoldVals w (fun _ => True) t0.D vs0) (hv1 : Dat.HoldVals w (fun _ => True) t1.D vs1) (htab : Sp w) :
  Calls Tryd.prog 6 #[.agg vs0.toArray, .agg vs1.toArray] w fun e w' => e = .returned (.bool true) ∧ Bel w w' := by
 have HTab := hide htab
 clear htab
 obtain ⟨x0_0, x0_1, x0_2, x0_3, x0_4, x0_5, x0_6, x0_7, x0_8, x0_9, x0_10, x0_11, x0_12⟩ := t0
 obtain ⟨A0_0_0, c0_0_0, A0_0_1, c0_0_1, A0_0_2, c0_0_2, A0_0_3, c0_0_3, A0_0_6, c0_0_6, A0_0_7, c0_0_7, A0_0_8, c0_0_8, rfl, -⟩ := TStore.vals hv0
 have HV0 := hide hv0
 clear hv0
 obtain ⟨x1_0, x1_1, x1_2, x1_3⟩ := t1
 obtain ⟨A1_0_3, c1_0_3, rfl, -⟩ := TGenerator.vals hv1
 have HV1 := hide hv1
 clear hv1
 obtain ⟨m0, hm0⟩ : ∃ m : Nat, m = Dat.wtL (TStore.mk x0_0 x0_1 x0_2 x0_3 x0_4 x0_5 x0_6 x0_7 x0_8 x0_9 x0_10 x0_11 x0_12).D := ⟨_, rfl⟩
 rcases Int.lt_or_le ((1048576 : Int)) (m0 : Int) with hq0 | hq0
 ·
  have HZ0 := hide (show szL (Dat.wtL (TStore.mk x0_0 x0_1 x0_2 x0_3 x0_4 x0_5 x0_6 x0_7 x0_8 x0_9 x0_10 x0_11 x0_12).D) ((1048576 : Int)) = -1 from szL_no (by omega))
  clear hq0 hm0
  go_enter Tryd.func6, Tryd.ntmps6
  go_wp2_with (fail)
  refine (szStore_any _ _ _ _ _ (Dat.HoldVals.bel bl HV0.out) (by omega) (by omega)).mono ?_
  rintro e w1 ⟨rfl, hb1⟩
  rw [HZ0.out]
  (have hz1 := hb1.sz; obtain ⟨hk1_0, hf1_0, hl1_0, hn1_0⟩ := hb1.lay (w.heap.size); obtain ⟨hk1_1, hf1_1, hl1_1, hn1_1⟩ := hb1.lay (w.heap.size + 1))
  go_wp2_with (fail)
  all_goals
   go_returns
   exact ⟨rfl, bl⟩
 have HZ0 := hide (show szL (Dat.wtL (TStore.mk x0_0 x0_1 x0_2 x0_3 x0_4 x0_5 x0_6 x0_7 x0_8 x0_9 x0_10 x0_11 x0_12).D) ((1048576 : Int)) = (1048576 : Int) - (m0 : Int) from by rw [szL_yes (by omega), hm0])
 have HS0 : Hid (Dat.wtL (TStore.mk x0_0 x0_1 x0_2 x0_3 x0_4 x0_5 x0_6 x0_7 x0_8 x0_9 x0_10 x0_11 x0_12).D ≤ 1048576) := by show _ ≤ _; omega
 have hlo0 : 0 ≤ (1048576 : Int) - (m0 : Int) := by omega
 have hle0 : (1048576 : Int) - (m0 : Int) ≤ 1048576 := by omega
 clear hm0
 obtain ⟨m1, hm1⟩ : ∃ m : Nat, m = Dat.wtL (TGenerator.mk x1_0 x1_1 x1_2 x1_3).D := ⟨_, rfl⟩
 rcases Int.lt_or_le ((1048576 : Int) - (m0 : Int)) (m1 : Int) with hq1 | hq1
 ·
  have HZ1 := hide (show szL (Dat.wtL (TGenerator.mk x1_0 x1_1 x1_2 x1_3).D) ((1048576 : Int) - (m0 : Int)) = -1 from szL_no (by omega))
  clear hq1 hm1
  go_enter Tryd.func6, Tryd.ntmps6
  go_wp2_with (fail)
  refine (szStore_any _ _ _ _ _ (Dat.HoldVals.bel bl HV0.out) (by omega) (by omega)).mono ?_
  rintro e w1 ⟨rfl, hb1⟩
  rw [HZ0.out]
  (have hz1 := hb1.sz; obtain ⟨hk1_0, hf1_0, hl1_0, hn1_0⟩ := hb1.lay (w.heap.size); obtain ⟨hk1_1, hf1_1, hl1_1, hn1_1⟩ := hb1.lay (w.heap.size + 1))
  go_wp2_with (fail)
  refine (szGenerator_any _ _ _ _ _ (Dat.HoldVals.bel bl HV1.out) (by omega) (by omega)).mono ?_
  rintro e w2 ⟨rfl, hb2⟩
  rw [HZ1.out]
  (have hz2 := hb2.sz; obtain ⟨hk2_0, hf2_0, hl2_0, hn2_0⟩ := hb2.lay (w.heap.size); obtain ⟨hk2_1, hf2_1, hl2_1, hn2_1⟩ := hb2.lay (w.heap.size + 1))
  go_wp2_with (fail)
  all_goals
   go_returns
   exact ⟨rfl, bl⟩
 have HZ1 := hide (show szL (Dat.wtL (TGenerator.mk x1_0 x1_1 x1_2 x1_3).D) ((1048576 : Int) - (m0 : Int)) = (1048576 : Int) - (m0 : Int) - (m1 : Int) from by rw [szL_yes (by omega), hm1])
 have HS1 : Hid (Dat.wtL (TGenerator.mk x1_0 x1_1 x1_2 x1_3).D ≤ 1048576) := by show _ ≤ _; omega
 have hlo1 : 0 ≤ (1048576 : Int) - (m0 : Int) - (m1 : Int) := by omega
 have hle1 : (1048576 : Int) - (m0 : Int) - (m1 : Int) ≤ 1048576 := by omega
 clear hm1
 clear hq0 hq1
 go_enter Tryd.func6, Tryd.ntmps6
 go_wp2_with (fail)
 refine (szStore_any _ _ _ _ _ (Dat.HoldVals.bel bl HV0.out) (by omega) (by omega)).mono ?_
 rintro e w1 ⟨rfl, hb1⟩
 rw [HZ0.out]
 (have hz1 := hb1.sz; obtain ⟨hk1_0, hf1_0, hl1_0, hn1_0⟩ := hb1.lay (w.heap.size); obtain ⟨hk1_1, hf1_1, hl1_1, hn1_1⟩ := hb1.lay (w.heap.size + 1))
 go_wp2_with (fail)
 refine (szGenerator_any _ _ _ _ _ (Dat.HoldVals.bel bl HV1.out) (by omega) (by omega)).mono ?_
 rintro e w2 ⟨rfl, hb2⟩
 rw [HZ1.out]
 (have hz2 := hb2.sz; obtain ⟨hk2_0, hf2_0, hl2_0, hn2_0⟩ := hb2.lay (w.heap.size); obtain ⟨hk2_1, hf2_1, hl2_1, hn2_1⟩ := hb2.lay (w.heap.size + 1))
 go_wp2_with (fail)
 have hbw : Bel w w2 := bl
 have a0_0 : w2.cell? ⟨w.heap.size, 0, none⟩ = some (.slice A0_0_0 x0_0.length c0_0_0) := by rw [hk2_0, hk1_0]; simp
 have a0_1 : w2.cell? ⟨w.heap.size, 1, none⟩ = some (.slice A0_0_1 x0_1.length c0_0_1) := by rw [hk2_0, hk1_0]; simp
 have a0_2 : w2.cell? ⟨w.heap.size, 2, none⟩ = some (.slice A0_0_2 x0_2.length c0_0_2) := by rw [hk2_0, hk1_0]; simp
 have a0_3 : w2.cell? ⟨w.heap.size, 3, none⟩ = some (.slice A0_0_3 x0_3.length c0_0_3) := by rw [hk2_0, hk1_0]; simp
 have a0_4 : w2.cell? ⟨w.heap.size, 4, none⟩ = some (.string x0_4) := by rw [hk2_0, hk1_0]; simp
 have a0_5 : w2.cell? ⟨w.heap.size, 5, none⟩ = some (.int .i64 x0_5) := by rw [hk2_0, hk1_0]; simp
 have a0_6 : w2.cell? ⟨w.heap.size, 6, none⟩ = some (.slice A0_0_6 x0_6.length c0_0_6) := by rw [hk2_0, hk1_0]; simp
 have a0_7 : w2.cell? ⟨w.heap.size, 7, none⟩ = some (.slice A0_0_7 x0_7.length c0_0_7) := by rw [hk2_0, hk1_0]; simp
 have a0_8 : w2.cell? ⟨w.heap.size, 8, none⟩ = some (.slice A0_0_8 x0_8.length c0_0_8) := by rw [hk2_0, hk1_0]; simp
 have a0_9 : w2.cell? ⟨w.heap.size, 9, none⟩ = some (.bool x0_9) := by rw [hk2_0, hk1_0]; simp
 have a0_10 : w2.cell? ⟨w.heap.size, 10, none⟩ = some (.int .i64 x0_10) := by rw [hk2_0, hk1_0]; simp
 have a0_11 : w2.cell? ⟨w.heap.size, 11, none⟩ = some (.int .i64 x0_11) := by rw [hk2_0, hk1_0]; simp
 have a0_12 : w2.cell? ⟨w.heap.size, 12, none⟩ = some (.int .i64 x0_12) := by rw [hk2_0, hk1_0]; simp
 have l0 : w.heap.size < w2.heap.size := by omega
 have a1_0 : w2.cell? ⟨w.heap.size + 1, 0, none⟩ = some (.int .i64 x1_0) := by rw [hk2_1, hk1_1]; simp
 have a1_1 : w2.cell? ⟨w.heap.size + 1, 1, none⟩ = some (.int .i64 x1_1) := by rw [hk2_1, hk1_1]; simp
 have a1_2 : w2.cell? ⟨w.heap.size + 1, 2, none⟩ = some (.int .i64 x1_2) := by rw [hk2_1, hk1_1]; simp
 have a1_3 : w2.cell? ⟨w.heap.size + 1, 3, none⟩ = some (.slice A1_0_3 x1_3.length c1_0_3) := by rw [hk2_1, hk1_1]; simp
 have l1 : w.heap.size + 1 < w2.heap.size := by omega
 clear hb1 hb2 hz1 hz2 hk1_0 hk1_1 hk2_0 hk2_1 hf1_0 hf1_1 hf2_0 hf2_1 hl1_0 hl1_1 hl2_0 hl2_1 hn1_0 hn1_1 hn2_0 hn2_1
 go_region_held3 (fun w' => w'.cell? ⟨w.heap.size, 0, none⟩ = some (.slice A0_0_0 x0_0.length c0_0_0) ∧ w'.cell? ⟨w.heap.size, 1, none⟩ = some (.slice A0_0_1 x0_1.length c0_0_1) ∧ w'.cell? ⟨w.heap.size, 2, none⟩ = some (.slice A0_0_2 x0_2.length c0_0_2) ∧ w'.cell? ⟨w.heap.size, 3, none⟩ = some (.slice A0_0_3 x0_3.length c0_0_3) ∧ w'.cell? ⟨w.heap.size, 4, none⟩ = some (.string x0_4) ∧ w'.cell? ⟨w.heap.size, 5, none⟩ = some (.int .i64 x0_5) ∧ w'.cell? ⟨w.heap.size, 6, none⟩ = some (.slice A0_0_6 x0_6.length c0_0_6) ∧ w'.cell? ⟨w.heap.size, 7, none⟩ = some (.slice A0_0_7 x0_7.length c0_0_7) ∧ w'.cell? ⟨w.heap.size, 8, none⟩ = some (.slice A0_0_8 x0_8.length c0_0_8) ∧ w'.cell? ⟨w.heap.size, 9, none⟩ = some (.bool x0_9) ∧ w'.cell? ⟨w.heap.size, 10, none⟩ = some (.int .i64 x0_10) ∧ w'.cell? ⟨w.heap.size, 11, none⟩ = some (.int .i64 x0_11) ∧ w'.cell? ⟨w.heap.size, 12, none⟩ = some (.int .i64 x0_12) ∧ w'.cell? ⟨w.heap.size + 1, 0, none⟩ = some (.int .i64 x1_0) ∧ w'.cell? ⟨w.heap.size + 1, 1, none⟩ = some (.int .i64 x1_1) ∧ w'.cell? ⟨w.heap.size + 1, 2, none⟩ = some (.int .i64 x1_2) ∧ w'.cell? ⟨w.heap.size + 1, 3, none⟩ = some (.slice A1_0_3 x1_3.length c1_0_3)) (first | exact ⟨(Bel.box (W := w2) bl (w.heap.size) l0 0).trans a0_0, (Bel.box (W := w2) bl (w.heap.size) l0 1).trans a0_1, (Bel.box (W := w2) bl (w.heap.size) l0 2).trans a0_2, (Bel.box (W := w2) bl (w.heap.size) l0 3).trans a0_3, (Bel.box (W := w2) bl (w.heap.size) l0 4).trans a0_4, (Bel.box (W := w2) bl (w.heap.size) l0 5).trans a0_5, (Bel.box (W := w2) bl (w.heap.size) l0 6).trans a0_6, (Bel.box (W := w2) bl (w.heap.size) l0 7).trans a0_7, (Bel.box (W := w2) bl (w.heap.size) l0 8).trans a0_8, (Bel.box (W := w2) bl (w.heap.size) l0 9).trans a0_9, (Bel.box (W := w2) bl (w.heap.size) l0 10).trans a0_10, (Bel.box (W := w2) bl (w.heap.size) l0 11).trans a0_11, (Bel.box (W := w2) bl (w.heap.size) l0 12).trans a0_12, (Bel.box (W := w2) bl (w.heap.size + 1) l1 0).trans a1_0, (Bel.box (W := w2) bl (w.heap.size + 1) l1 1).trans a1_1, (Bel.box (W := w2) bl (w.heap.size + 1) l1 2).trans a1_2, (Bel.box (W := w2) bl (w.heap.size + 1) l1 3).trans a1_3⟩) (first
   | (go_at_call 9; refine (toStore_any _ _ _ _ (Dat.HoldVals.bel bl HV0.out) HS0.out).mono ?_; rintro e w3 ⟨vs3, rfl, hv3, hb3⟩; obtain ⟨B3_0, d3_0, B3_1, d3_1, B3_2, d3_2, B3_3, d3_3, B3_6, d3_6, B3_7, d3_7, B3_8, d3_8, rfl, -⟩ := TStore.vals hv3; have HVc3 := hide hv3; clear hv3)
   | (go_at_call 21; refine (toGenerator_any _ _ _ _ (Dat.HoldVals.bel bl HV1.out) HS1.out).mono ?_; rintro e w4 ⟨vs4, rfl, hv4, hb4⟩; obtain ⟨B4_3, d4_3, rfl, -⟩ := TGenerator.vals hv4; have HVc4 := hide hv4; clear hv4)
   | (go_at_call 20; refine (specIsValidGenerator_law (TStore.mk x0_0 x0_1 x0_2 x0_3 x0_4 x0_5 x0_6 x0_7 x0_8 x0_9 x0_10 x0_11 x0_12) (TGenerator.mk x1_0 x1_1 x1_2 x1_3) _ (HTab.out.on bl) _ _ (Dat.HoldVals.bel (show Bel w3 _ from bl) HVc3.out) HS0.out _ _ (Dat.HoldVals.bel (show Bel w4 _ from bl) HVc4.out) HS1.out).mono ?_; rintro e w5 ⟨rfl, hb5⟩))
 go_wp2_with (fail)
 refine (toStore_any _ _ _ _ (Dat.HoldVals.bel bl HV0.out) HS0.out).mono ?_
 rintro e wx ⟨vsx, rfl, hvx, hbx⟩; obtain ⟨Bx_0, dx_0, Bx_1, dx_1, Bx_2, dx_2, Bx_3, dx_3, Bx_6, dx_6, Bx_7, dx_7, Bx_8, dx_8, rfl, -⟩ := TStore.vals hvx; have HVcx := hide hvx; clear hvx
 have h2x : Bel w2 wx := bl
 have hbwx : Bel w wx := hbw.trans h2x
 have q0 := h2x.box (w.heap.size) l0
 replace a0_0 := (q0 0).trans a0_0
 replace a0_1 := (q0 1).trans a0_1
 replace a0_2 := (q0 2).trans a0_2
 replace a0_3 := (q0 3).trans a0_3
 replace a0_4 := (q0 4).trans a0_4
 replace a0_5 := (q0 5).trans a0_5
 replace a0_6 := (q0 6).trans a0_6
 replace a0_7 := (q0 7).trans a0_7
 replace a0_8 := (q0 8).trans a0_8
 replace a0_9 := (q0 9).trans a0_9
 replace a0_10 := (q0 10).trans a0_10
 replace a0_11 := (q0 11).trans a0_11
 replace a0_12 := (q0 12).trans a0_12
 replace l0 := Nat.lt_of_lt_of_le l0 h2x.size
 have q1 := h2x.box (w.heap.size + 1) l1
 replace a1_0 := (q1 0).trans a1_0
 replace a1_1 := (q1 1).trans a1_1
 replace a1_2 := (q1 2).trans a1_2
 replace a1_3 := (q1 3).trans a1_3
 replace l1 := Nat.lt_of_lt_of_le l1 h2x.size
 clear q0 q1
 clear hb3 hb4 hb5 hbx h2x hbw HVc3 HVc4
 have n0 : ¬ w.heap.size = wx.heap.size := by omega
 have n1 : ¬ w.heap.size + 1 = wx.heap.size := by omega
 go_upto_region 10 with (fail)
 obtain ⟨w6, hw⟩ : ∃ x : World, x = wx.alloc (.cells #[.slice Bx_0 x0_0.length dx_0, .slice Bx_1 x0_1.length dx_1, .slice Bx_2 x0_2.length dx_2, .slice Bx_3 x0_3.length dx_3, .string x0_4, .int .i64 x0_5, .slice Bx_6 x0_6.length dx_6, .slice Bx_7 x0_7.length dx_7, .slice Bx_8 x0_8.length dx_8, .bool x0_9, .int .i64 x0_10, .int .i64 x0_11, .int .i64 x0_12] 36) := ⟨_, rfl⟩
 rw [← hw]
 have h6 : Bel wx w6 := by rw [hw]; exact Bel.alloc (Bel.refl _) _
 have hbw6 : Bel w w6 := hbwx.trans h6
 have q0 := h6.box (w.heap.size) l0
 replace a0_0 := (q0 0).trans a0_0
 replace a0_1 := (q0 1).trans a0_1
 replace a0_2 := (q0 2).trans a0_2
 replace a0_3 := (q0 3).trans a0_3
 replace a0_4 := (q0 4).trans a0_4
 replace a0_5 := (q0 5).trans a0_5
 replace a0_6 := (q0 6).trans a0_6
 replace a0_7 := (q0 7).trans a0_7
 replace a0_8 := (q0 8).trans a0_8
 replace a0_9 := (q0 9).trans a0_9
 replace a0_10 := (q0 10).trans a0_10
 replace a0_11 := (q0 11).trans a0_11
 replace a0_12 := (q0 12).trans a0_12
 replace l0 := Nat.lt_of_lt_of_le l0 h6.size
 have q1 := h6.box (w.heap.size + 1) l1
 replace a1_0 := (q1 0).trans a1_0
 replace a1_1 := (q1 1).trans a1_1
 replace a1_2 := (q1 2).trans a1_2
 replace a1_3 := (q1 3).trans a1_3
 replace l1 := Nat.lt_of_lt_of_le l1 h6.size
 clear q0 q1
 have ax_0 : w6.cell? ⟨wx.heap.size, 0, none⟩ = some (.slice Bx_0 x0_0.length dx_0) := by rw [hw]; simp
 have ax_1 : w6.cell? ⟨wx.heap.size, 1, none⟩ = some (.slice Bx_1 x0_1.length dx_1) := by rw [hw]; simp
 have ax_2 : w6.cell? ⟨wx.heap.size, 2, none⟩ = some (.slice Bx_2 x0_2.length dx_2) := by rw [hw]; simp
 have ax_3 : w6.cell? ⟨wx.heap.size, 3, none⟩ = some (.slice Bx_3 x0_3.length dx_3) := by rw [hw]; simp
 have ax_4 : w6.cell? ⟨wx.heap.size, 4, none⟩ = some (.string x0_4) := by rw [hw]; simp
 have ax_5 : w6.cell? ⟨wx.heap.size, 5, none⟩ = some (.int .i64 x0_5) := by rw [hw]; simp
 have ax_6 : w6.cell? ⟨wx.heap.size, 6, none⟩ = some (.slice Bx_6 x0_6.length dx_6) := by rw [hw]; simp
 have ax_7 : w6.cell? ⟨wx.heap.size, 7, none⟩ = some (.slice Bx_7 x0_7.length dx_7) := by rw [hw]; simp
 have ax_8 : w6.cell? ⟨wx.heap.size, 8, none⟩ = some (.slice Bx_8 x0_8.length dx_8) := by rw [hw]; simp
 have ax_9 : w6.cell? ⟨wx.heap.size, 9, none⟩ = some (.bool x0_9) := by rw [hw]; simp
 have ax_10 : w6.cell? ⟨wx.heap.size, 10, none⟩ = some (.int .i64 x0_10) := by rw [hw]; simp
 have ax_11 : w6.cell? ⟨wx.heap.size, 11, none⟩ = some (.int .i64 x0_11) := by rw [hw]; simp
 have ax_12 : w6.cell? ⟨wx.heap.size, 12, none⟩ = some (.int .i64 x0_12) := by rw [hw]; simp
 have lx : wx.heap.size < w6.heap.size := by rw [hw]; simp
 have HVx6 := hide (Dat.HoldVals.bel h6 HVcx.out)
 clear hw hbwx HVcx h6 n0 n1
 go_wp2_with (fail)
 refine (toGenerator_any _ _ _ _ (Dat.HoldVals.bel bl HV1.out) HS1.out).mono ?_
 rintro e wy ⟨vsy, rfl, hvy, hby⟩; obtain ⟨By_3, dy_3, rfl, -⟩ := TGenerator.vals hvy; have HVcy := hide hvy; clear hvy
 have hbwy : Bel w wy := hbw6.trans hby
 have q0 := hby.box (w.heap.size) l0
 replace a0_0 := (q0 0).trans a0_0
 replace a0_1 := (q0 1).trans a0_1
 replace a0_2 := (q0 2).trans a0_2
 replace a0_3 := (q0 3).trans a0_3
 replace a0_4 := (q0 4).trans a0_4
 replace a0_5 := (q0 5).trans a0_5
 replace a0_6 := (q0 6).trans a0_6
 replace a0_7 := (q0 7).trans a0_7
 replace a0_8 := (q0 8).trans a0_8
 replace a0_9 := (q0 9).trans a0_9
 replace a0_10 := (q0 10).trans a0_10
 replace a0_11 := (q0 11).trans a0_11
 replace a0_12 := (q0 12).trans a0_12
 replace l0 := Nat.lt_of_lt_of_le l0 hby.size
 have q1 := hby.box (w.heap.size + 1) l1
 replace a1_0 := (q1 0).trans a1_0
 replace a1_1 := (q1 1).trans a1_1
 replace a1_2 := (q1 2).trans a1_2
 replace a1_3 := (q1 3).trans a1_3
 replace l1 := Nat.lt_of_lt_of_le l1 hby.size
 have qx := hby.box (wx.heap.size) lx
 replace ax_0 := (qx 0).trans ax_0
 replace ax_1 := (qx 1).trans ax_1
 replace ax_2 := (qx 2).trans ax_2
 replace ax_3 := (qx 3).trans ax_3
 replace ax_4 := (qx 4).trans ax_4
 replace ax_5 := (qx 5).trans ax_5
 replace ax_6 := (qx 6).trans ax_6
 replace ax_7 := (qx 7).trans ax_7
 replace ax_8 := (qx 8).trans ax_8
 replace ax_9 := (qx 9).trans ax_9
 replace ax_10 := (qx 10).trans ax_10
 replace ax_11 := (qx 11).trans ax_11
 replace ax_12 := (qx 12).trans ax_12
 replace lx := Nat.lt_of_lt_of_le lx hby.size
 clear q0 q1 qx
 have HVx7 := hide (Dat.HoldVals.bel hby HVx6.out)
 clear hby hbw6 HVx6
 have n0 : ¬ w.heap.size = wy.heap.size := by omega
 have n1 : ¬ w.heap.size + 1 = wy.heap.size := by omega
 have nx : ¬ wx.heap.size = wy.heap.size := by omega
 go_upto_region 11 with (fail)
 obtain ⟨w7, hw⟩ : ∃ x : World, x = wy.alloc (.cells #[.int .i64 x1_0, .int .i64 x1_1, .int .i64 x1_2, .slice By_3 x1_3.length dy_3] 59) := ⟨_, rfl⟩
 rw [← hw]
 have h6 : Bel wy w7 := by rw [hw]; exact Bel.alloc (Bel.refl _) _
 have hbw7 : Bel w w7 := hbwy.trans h6
 have q0 := h6.box (w.heap.size) l0
 replace a0_0 := (q0 0).trans a0_0
 replace a0_1 := (q0 1).trans a0_1
 replace a0_2 := (q0 2).trans a0_2
 replace a0_3 := (q0 3).trans a0_3
 replace a0_4 := (q0 4).trans a0_4
 replace a0_5 := (q0 5).trans a0_5
 replace a0_6 := (q0 6).trans a0_6
 replace a0_7 := (q0 7).trans a0_7
 replace a0_8 := (q0 8).trans a0_8
 replace a0_9 := (q0 9).trans a0_9
 replace a0_10 := (q0 10).trans a0_10
 replace a0_11 := (q0 11).trans a0_11
 replace a0_12 := (q0 12).trans a0_12
 replace l0 := Nat.lt_of_lt_of_le l0 h6.size
 have q1 := h6.box (w.heap.size + 1) l1
 replace a1_0 := (q1 0).trans a1_0
 replace a1_1 := (q1 1).trans a1_1
 replace a1_2 := (q1 2).trans a1_2
 replace a1_3 := (q1 3).trans a1_3
 replace l1 := Nat.lt_of_lt_of_le l1 h6.size
 have qx := h6.box (wx.heap.size) lx
 replace ax_0 := (qx 0).trans ax_0
 replace ax_1 := (qx 1).trans ax_1
 replace ax_2 := (qx 2).trans ax_2
 replace ax_3 := (qx 3).trans ax_3
 replace ax_4 := (qx 4).trans ax_4
 replace ax_5 := (qx 5).trans ax_5
 replace ax_6 := (qx 6).trans ax_6
 replace ax_7 := (qx 7).trans ax_7
 replace ax_8 := (qx 8).trans ax_8
 replace ax_9 := (qx 9).trans ax_9
 replace ax_10 := (qx 10).trans ax_10
 replace ax_11 := (qx 11).trans ax_11
 replace ax_12 := (qx 12).trans ax_12
 replace lx := Nat.lt_of_lt_of_le lx h6.size
 clear q0 q1 qx
 have ay_0 : w7.cell? ⟨wy.heap.size, 0, none⟩ = some (.int .i64 x1_0) := by rw [hw]; simp
 have ay_1 : w7.cell? ⟨wy.heap.size, 1, none⟩ = some (.int .i64 x1_1) := by rw [hw]; simp
 have ay_2 : w7.cell? ⟨wy.heap.size, 2, none⟩ = some (.int .i64 x1_2) := by rw [hw]; simp
 have ay_3 : w7.cell? ⟨wy.heap.size, 3, none⟩ = some (.slice By_3 x1_3.length dy_3) := by rw [hw]; simp
 have ly : wy.heap.size < w7.heap.size := by rw [hw]; simp
 have HVx8 := hide (Dat.HoldVals.bel h6 HVx7.out)
 have HVy8 := hide (Dat.HoldVals.bel h6 HVcy.out)
 clear hw hbwy HVx7 HVcy h6 n0 n1 nx
 go_wp2_with (go_at_call 22; refine (implIsValidGenerator_law (TStore.mk x0_0 x0_1 x0_2 x0_3 x0_4 x0_5 x0_6 x0_7 x0_8 x0_9 x0_10 x0_11 x0_12) (TGenerator.mk x1_0 x1_1 x1_2 x1_3) _ (HTab.out.on bl) _ _ (Dat.HoldVals.bel (show Bel w7 _ from bl) HVx8.out) HS0.out _ _ (Dat.HoldVals.bel (show Bel w7 _ from bl) HVy8.out) HS1.out).mono ?_; rintro e w8 ⟨rfl, hb8⟩)
 go_region_held3 (fun w' => w'.cell? ⟨w.heap.size, 0, none⟩ = some (.slice A0_0_0 x0_0.length c0_0_0) ∧ w'.cell? ⟨w.heap.size, 1, none⟩ = some (.slice A0_0_1 x0_1.length c0_0_1) ∧ w'.cell? ⟨w.heap.size, 2, none⟩ = some (.slice A0_0_2 x0_2.length c0_0_2) ∧ w'.cell? ⟨w.heap.size, 3, none⟩ = some (.slice A0_0_3 x0_3.length c0_0_3) ∧ w'.cell? ⟨w.heap.size, 4, none⟩ = some (.string x0_4) ∧ w'.cell? ⟨w.heap.size, 5, none⟩ = some (.int .i64 x0_5) ∧ w'.cell? ⟨w.heap.size, 6, none⟩ = some (.slice A0_0_6 x0_6.length c0_0_6) ∧ w'.cell? ⟨w.heap.size, 7, none⟩ = some (.slice A0_0_7 x0_7.length c0_0_7) ∧ w'.cell? ⟨w.heap.size, 8, none⟩ = some (.slice A0_0_8 x0_8.length c0_0_8) ∧ w'.cell? ⟨w.heap.size, 9, none⟩ = some (.bool x0_9) ∧ w'.cell? ⟨w.heap.size, 10, none⟩ = some (.int .i64 x0_10) ∧ w'.cell? ⟨w.heap.size, 11, none⟩ = some (.int .i64 x0_11) ∧ w'.cell? ⟨w.heap.size, 12, none⟩ = some (.int .i64 x0_12) ∧ w'.cell? ⟨wx.heap.size, 0, none⟩ = some (.slice Bx_0 x0_0.length dx_0) ∧ w'.cell? ⟨wx.heap.size, 1, none⟩ = some (.slice Bx_1 x0_1.length dx_1) ∧ w'.cell? ⟨wx.heap.size, 2, none⟩ = some (.slice Bx_2 x0_2.length dx_2) ∧ w'.cell? ⟨wx.heap.size, 3, none⟩ = some (.slice Bx_3 x0_3.length dx_3) ∧ w'.cell? ⟨wx.heap.size, 4, none⟩ = some (.string x0_4) ∧ w'.cell? ⟨wx.heap.size, 5, none⟩ = some (.int .i64 x0_5) ∧ w'.cell? ⟨wx.heap.size, 6, none⟩ = some (.slice Bx_6 x0_6.length dx_6) ∧ w'.cell? ⟨wx.heap.size, 7, none⟩ = some (.slice Bx_7 x0_7.length dx_7) ∧ w'.cell? ⟨wx.heap.size, 8, none⟩ = some (.slice Bx_8 x0_8.length dx_8) ∧ w'.cell? ⟨wx.heap.size, 9, none⟩ = some (.bool x0_9) ∧ w'.cell? ⟨wx.heap.size, 10, none⟩ = some (.int .i64 x0_10) ∧ w'.cell? ⟨wx.heap.size, 11, none⟩ = some (.int .i64 x0_11) ∧ w'.cell? ⟨wx.heap.size, 12, none⟩ = some (.int .i64 x0_12)) (first | exact ⟨(Bel.box (W := w7) bl (w.heap.size) l0 0).trans a0_0, (Bel.box (W := w7) bl (w.heap.size) l0 1).trans a0_1, (Bel.box (W := w7) bl (w.heap.size) l0 2).trans a0_2, (Bel.box (W := w7) bl (w.heap.size) l0 3).trans a0_3, (Bel.box (W := w7) bl (w.heap.size) l0 4).trans a0_4, (Bel.box (W := w7) bl (w.heap.size) l0 5).trans a0_5, (Bel.box (W := w7) bl (w.heap.size) l0 6).trans a0_6, (Bel.box (W := w7) bl (w.heap.size) l0 7).trans a0_7, (Bel.box (W := w7) bl (w.heap.size) l0 8).trans a0_8, (Bel.box (W := w7) bl (w.heap.size) l0 9).trans a0_9, (Bel.box (W := w7) bl (w.heap.size) l0 10).trans a0_10, (Bel.box (W := w7) bl (w.heap.size) l0 11).trans a0_11, (Bel.box (W := w7) bl (w.heap.size) l0 12).trans a0_12, (Bel.box (W := w7) bl (wx.heap.size) lx 0).trans ax_0, (Bel.box (W := w7) bl (wx.heap.size) lx 1).trans ax_1, (Bel.box (W := w7) bl (wx.heap.size) lx 2).trans ax_2, (Bel.box (W := w7) bl (wx.heap.size) lx 3).trans ax_3, (Bel.box (W := w7) bl (wx.heap.size) lx 4).trans ax_4, (Bel.box (W := w7) bl (wx.heap.size) lx 5).trans ax_5, (Bel.box (W := w7) bl (wx.heap.size) lx 6).trans ax_6, (Bel.box (W := w7) bl (wx.heap.size) lx 7).trans ax_7, (Bel.box (W := w7) bl (wx.heap.size) lx 8).trans ax_8, (Bel.box (W := w7) bl (wx.heap.size) lx 9).trans ax_9, (Bel.box (W := w7) bl (wx.heap.size) lx 10).trans ax_10, (Bel.box (W := w7) bl (wx.heap.size) lx 11).trans ax_11, (Bel.box (W := w7) bl (wx.heap.size) lx 12).trans ax_12⟩) (first
   | (go_at_call 9; refine (toStore_any _ _ _ _ (Dat.HoldVals.bel bl HV0.out) HS0.out).mono ?_; rintro e wd ⟨vsd, rfl, hvd, hbd⟩; obtain ⟨Bd_0, dd_0, Bd_1, dd_1, Bd_2, dd_2, Bd_3, dd_3, Bd_6, dd_6, Bd_7, dd_7, Bd_8, dd_8, rfl, -⟩ := TStore.vals hvd; have HVcd := hide hvd; clear hvd)
   | (go_at_call 11; refine (eqStore_any _ _ _ _ _ _ (Dat.HoldVals.bel (show Bel w7 _ from bl) HVx8.out) (Dat.HoldVals.bel (show Bel wd _ from bl) HVcd.out)).mono ?_; rintro e we ⟨rfl, hbe⟩))
 go_wp2_with (fail)
 go_region_held3 (fun w' => w'.cell? ⟨w.heap.size + 1, 0, none⟩ = some (.int .i64 x1_0) ∧ w'.cell? ⟨w.heap.size + 1, 1, none⟩ = some (.int .i64 x1_1) ∧ w'.cell? ⟨w.heap.size + 1, 2, none⟩ = some (.int .i64 x1_2) ∧ w'.cell? ⟨w.heap.size + 1, 3, none⟩ = some (.slice A1_0_3 x1_3.length c1_0_3) ∧ w'.cell? ⟨wy.heap.size, 0, none⟩ = some (.int .i64 x1_0) ∧ w'.cell? ⟨wy.heap.size, 1, none⟩ = some (.int .i64 x1_1) ∧ w'.cell? ⟨wy.heap.size, 2, none⟩ = some (.int .i64 x1_2) ∧ w'.cell? ⟨wy.heap.size, 3, none⟩ = some (.slice By_3 x1_3.length dy_3)) (first | exact ⟨(Bel.box (W := w7) bl (w.heap.size + 1) l1 0).trans a1_0, (Bel.box (W := w7) bl (w.heap.size + 1) l1 1).trans a1_1, (Bel.box (W := w7) bl (w.heap.size + 1) l1 2).trans a1_2, (Bel.box (W := w7) bl (w.heap.size + 1) l1 3).trans a1_3, (Bel.box (W := w7) bl (wy.heap.size) ly 0).trans ay_0, (Bel.box (W := w7) bl (wy.heap.size) ly 1).trans ay_1, (Bel.box (W := w7) bl (wy.heap.size) ly 2).trans ay_2, (Bel.box (W := w7) bl (wy.heap.size) ly 3).trans ay_3⟩) (first
   | (go_at_call 21; refine (toGenerator_any _ _ _ _ (Dat.HoldVals.bel bl HV1.out) HS1.out).mono ?_; rintro e wg ⟨vsg, rfl, hvg, hbg⟩; obtain ⟨Bg_3, dg_3, rfl, -⟩ := TGenerator.vals hvg; have HVcg := hide hvg; clear hvg)
   | (go_at_call 23; refine (eqGenerator_any _ _ _ _ _ _ (Dat.HoldVals.bel (show Bel w7 _ from bl) HVy8.out) (Dat.HoldVals.bel (show Bel wg _ from bl) HVcg.out)).mono ?_; rintro e wh ⟨rfl, hbh⟩))
 go_wp2_with (fail)
 all_goals
  go_returns
  exact ⟨rfl, bl⟩
end Go.Proofs.YtebbpcgiacckfaaDoor
