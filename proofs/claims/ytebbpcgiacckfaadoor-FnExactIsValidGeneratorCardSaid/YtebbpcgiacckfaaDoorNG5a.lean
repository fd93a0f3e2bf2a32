/- Part of the proof: is a generator valid. -/
import Derived.Test.YtebbpcgiacckfaaDoorNHGenerator
import Derived.Deep.RegionHeld3
namespace Go.Proofs.YtebbpcgiacckfaaDoor
set_option linter.unusedVariables false
set_option linter.unusedSimpArgs false
set_option maxRecDepth 100000
open Go.RowKit
--%quiet
set_option maxHeartbeats 8000000 in
theorem implGen_k2 (s : TStore) (kd op ct : Int) (l : List TValue) (hk1 : kd ≠ 1) (hk2 : kd ≠ 2) (hall : inAllB s l = true) (hval : validB s = true) : GenI s kd op ct l := by
 intro S S' w vs A c htab hv hR
 obtain ⟨x0, x1, x2, x3, x4, x5, x6, x7, x8, x9, x10, x11, x12⟩ := s
 have HV := hide hv
 obtain ⟨A0, c0, A1, c1, A2, c2, A3, c3, A6, c6, A7, c7, A8, c8, rfl, hlc0, hcm0, hlc1, hcm1, hlc2, hcm2, hlc3, hcm3, hlc6, hcm6, hlc7, hcm7, hlc8, hcm8, g4, g5, g10, g11, g12, HR0, HR1, HR2, HR3, HR6, HR7, HR8, HS1⟩ := TStore.opn 36 hv
 clear hv
 have HT := hide htab
 clear htab
 have HR := hide hR
 have hlen := hR.1
 have hcm := hR.2.1
 simp only [List.length_map] at hlen
 unfold maxLen at hcm
 clear hR
 have RR := hide (show (validB (TStore.mk x0 x1 x2 x3 x4 x5 x6 x7 x8 x9 x10 x11 x12) && genB (TStore.mk x0 x1 x2 x3 x4 x5 x6 x7 x8 x9 x10 x11 x12) kd op ct l) = false by rw [hval, Bool.true_and]; exact gen_2n hk1 fun h => hk2 h.1)
 have HALL := hide hall
 have HVL := hide hval
 have fk1 : (kd == 1) = false := by rw [beq_eq_false_iff_ne]; omega
 have fk2 : (kd != 2) = true := by rw [bne_iff_ne]; exact hk2
 clear hall hval hk1 hk2
 go_enter Tryd.func22, Tryd.ntmps22
 have mkq := True.intro
 repeat (any_goals ((first | clear mkq | go_quiet (fail)); (try go_wp2_with (go_at_call 10; refine (implValid_any (TStore.mk x0 x1 x2 x3 x4 x5 x6 x7 x8 x9 x10 x11 x12) S _ _ (HT.out.on bl) (Dat.HoldVals.bel bl HV.out)).mono ?_; rintro e w1 ⟨rfl, hb1⟩; rw [HVL.out]; (have hz1 := hb1.sz; obtain ⟨hk1_0, hf1_0, hl1_0, hn1_0⟩ := hb1.lay (w.heap.size); obtain ⟨hk1_1, hf1_1, hl1_1, hn1_1⟩ := hb1.lay (w.heap.size + 1))))))
 have HSw := hide (show StoreAt w1 S w.heap.size (TStore.mk x0 x1 x2 x3 x4 x5 x6 x7 x8 x9 x10 x11 x12) from StoreAt.bel bl HS1.out)
 have hb1w : Bel w w1 := bl
 go_loopw [15] (fun v wr => ∃ m : Nat, v = .int .i64 m ∧ m ≤ l.length ∧ Bel w1 wr) (fun v _ => l.length - (intOf v).toNat)
 case atStart => exact ⟨0, rfl, by omega, Bel.refl _⟩
 case round =>
  obtain ⟨m, rfl, m1, hb0⟩ := hrel
  have HSr := hide (StoreAt.bel hb0 HSw.out)
  have hbw : Bel w wr := hb1w.trans hb0
  have hz0 := hb0.size
  have p0 : wr.cell? ⟨w.heap.size + 1, 0, none⟩ = some (.int .i64 kd) := (hb0.box (w.heap.size + 1) hl1_1 0).trans (by rw [hk1_1]; simp)
  have p1 : wr.cell? ⟨w.heap.size + 1, 1, none⟩ = some (.int .i64 op) := (hb0.box (w.heap.size + 1) hl1_1 1).trans (by rw [hk1_1]; simp)
  have p2 : wr.cell? ⟨w.heap.size + 1, 2, none⟩ = some (.int .i64 ct) := (hb0.box (w.heap.size + 1) hl1_1 2).trans (by rw [hk1_1]; simp)
  have p3 : wr.cell? ⟨w.heap.size + 1, 3, none⟩ = some (.slice A l.length c) := (hb0.box (w.heap.size + 1) hl1_1 3).trans (by rw [hk1_1]; simp)
  have hl0 : w.heap.size < wr.heap.size := by omega
  have hl1 : w.heap.size + 1 < wr.heap.size := by omega
  have hn1 : ¬ w.heap.size + 1 = wr.heap.size := by omega
  by_cases h1 : m < l.length
  ·
   exact rq0
  ·
   exact rq5
set_option maxHeartbeats 8000000 in
theorem implGen_c2 (s : TStore) (op ct : Int) (l : List TValue) (hc : ct ≠ 0) (hall : inAllB s l = true) (hval : validB s = true) : GenI s 2 op ct l := by
 intro S S' w vs A c htab hv hR
 obtain ⟨x0, x1, x2, x3, x4, x5, x6, x7, x8, x9, x10, x11, x12⟩ := s
 have HV := hide hv
 obtain ⟨A0, c0, A1, c1, A2, c2, A3, c3, A6, c6, A7, c7, A8, c8, rfl, hlc0, hcm0, hlc1, hcm1, hlc2, hcm2, hlc3, hcm3, hlc6, hcm6, hlc7, hcm7, hlc8, hcm8, g4, g5, g10, g11, g12, HR0, HR1, HR2, HR3, HR6, HR7, HR8, HS1⟩ := TStore.opn 36 hv
 clear hv
 have HT := hide htab
 clear htab
 have HR := hide hR
 have hlen := hR.1
 have hcm := hR.2.1
 simp only [List.length_map] at hlen
 unfold maxLen at hcm
 clear hR
 have RR := hide (show (validB (TStore.mk x0 x1 x2 x3 x4 x5 x6 x7 x8 x9 x10 x11 x12) && genB (TStore.mk x0 x1 x2 x3 x4 x5 x6 x7 x8 x9 x10 x11 x12) 2 op ct l) = false by rw [hval, Bool.true_and]; exact gen_2n (by decide) fun h => hc h.2.1)
 have HALL := hide hall
 have HVL := hide hval
 have fc : (ct != 0) = true := by rw [bne_iff_ne]; exact hc
 clear hall hval hc
 go_enter Tryd.func22, Tryd.ntmps22
 have mkq := True.intro
 repeat (any_goals ((first | clear mkq | go_quiet (fail)); (try go_wp2_with (go_at_call 10; refine (implValid_any (TStore.mk x0 x1 x2 x3 x4 x5 x6 x7 x8 x9 x10 x11 x12) S _ _ (HT.out.on bl) (Dat.HoldVals.bel bl HV.out)).mono ?_; rintro e w1 ⟨rfl, hb1⟩; rw [HVL.out]; (have hz1 := hb1.sz; obtain ⟨hk1_0, hf1_0, hl1_0, hn1_0⟩ := hb1.lay (w.heap.size); obtain ⟨hk1_1, hf1_1, hl1_1, hn1_1⟩ := hb1.lay (w.heap.size + 1))))))
 have HSw := hide (show StoreAt w1 S w.heap.size (TStore.mk x0 x1 x2 x3 x4 x5 x6 x7 x8 x9 x10 x11 x12) from StoreAt.bel bl HS1.out)
 have hb1w : Bel w w1 := bl
 go_loopw [15] (fun v wr => ∃ m : Nat, v = .int .i64 m ∧ m ≤ l.length ∧ Bel w1 wr) (fun v _ => l.length - (intOf v).toNat)
 case atStart => exact ⟨0, rfl, by omega, Bel.refl _⟩
 case round =>
  obtain ⟨m, rfl, m1, hb0⟩ := hrel
  have HSr := hide (StoreAt.bel hb0 HSw.out)
  have hbw : Bel w wr := hb1w.trans hb0
  have hz0 := hb0.size
  have p0 : wr.cell? ⟨w.heap.size + 1, 0, none⟩ = some (.int .i64 2) := (hb0.box (w.heap.size + 1) hl1_1 0).trans (by rw [hk1_1]; simp)
  have p1 : wr.cell? ⟨w.heap.size + 1, 1, none⟩ = some (.int .i64 op) := (hb0.box (w.heap.size + 1) hl1_1 1).trans (by rw [hk1_1]; simp)
  have p2 : wr.cell? ⟨w.heap.size + 1, 2, none⟩ = some (.int .i64 ct) := (hb0.box (w.heap.size + 1) hl1_1 2).trans (by rw [hk1_1]; simp)
  have p3 : wr.cell? ⟨w.heap.size + 1, 3, none⟩ = some (.slice A l.length c) := (hb0.box (w.heap.size + 1) hl1_1 3).trans (by rw [hk1_1]; simp)
  have hl0 : w.heap.size < wr.heap.size := by omega
  have hl1 : w.heap.size + 1 < wr.heap.size := by omega
  have hn1 : ¬ w.heap.size + 1 = wr.heap.size := by omega
  by_cases h1 : m < l.length
  ·
   exact rq0
  ·
   exact rq5
set_option maxHeartbeats 8000000 in
theorem implGen_n2 (s : TStore) (op : Int) (l : List TValue) (hn : l.length < 3) (hall : inAllB s l = true) (hval : validB s = true) : GenI s 2 op 0 l := by
 intro S S' w vs A c htab hv hR
 obtain ⟨x0, x1, x2, x3, x4, x5, x6, x7, x8, x9, x10, x11, x12⟩ := s
 have HV := hide hv
 obtain ⟨A0, c0, A1, c1, A2, c2, A3, c3, A6, c6, A7, c7, A8, c8, rfl, hlc0, hcm0, hlc1, hcm1, hlc2, hcm2, hlc3, hcm3, hlc6, hcm6, hlc7, hcm7, hlc8, hcm8, g4, g5, g10, g11, g12, HR0, HR1, HR2, HR3, HR6, HR7, HR8, HS1⟩ := TStore.opn 36 hv
 clear hv
 have HT := hide htab
 clear htab
 have HR := hide hR
 have hlen := hR.1
 have hcm := hR.2.1
 simp only [List.length_map] at hlen
 unfold maxLen at hcm
 clear hR
 have RR := hide (show (validB (TStore.mk x0 x1 x2 x3 x4 x5 x6 x7 x8 x9 x10 x11 x12) && genB (TStore.mk x0 x1 x2 x3 x4 x5 x6 x7 x8 x9 x10 x11 x12) 2 op 0 l) = false by rw [hval, Bool.true_and]; exact gen_2n (by decide) fun h => by have := (undo_len h.2.2).1; omega)
 have HALL := hide hall
 have HVL := hide hval
 have fn1 : decide ((l.length : Int) < 3) = true := by simp; omega
 clear hall hval hn
 go_enter Tryd.func22, Tryd.ntmps22
 have mkq := True.intro
 repeat (any_goals ((first | clear mkq | go_quiet (fail)); (try go_wp2_with (go_at_call 10; refine (implValid_any (TStore.mk x0 x1 x2 x3 x4 x5 x6 x7 x8 x9 x10 x11 x12) S _ _ (HT.out.on bl) (Dat.HoldVals.bel bl HV.out)).mono ?_; rintro e w1 ⟨rfl, hb1⟩; rw [HVL.out]; (have hz1 := hb1.sz; obtain ⟨hk1_0, hf1_0, hl1_0, hn1_0⟩ := hb1.lay (w.heap.size); obtain ⟨hk1_1, hf1_1, hl1_1, hn1_1⟩ := hb1.lay (w.heap.size + 1))))))
 have HSw := hide (show StoreAt w1 S w.heap.size (TStore.mk x0 x1 x2 x3 x4 x5 x6 x7 x8 x9 x10 x11 x12) from StoreAt.bel bl HS1.out)
 have hb1w : Bel w w1 := bl
 go_loopw [15] (fun v wr => ∃ m : Nat, v = .int .i64 m ∧ m ≤ l.length ∧ Bel w1 wr) (fun v _ => l.length - (intOf v).toNat)
 case atStart => exact ⟨0, rfl, by omega, Bel.refl _⟩
 case round =>
  obtain ⟨m, rfl, m1, hb0⟩ := hrel
  have HSr := hide (StoreAt.bel hb0 HSw.out)
  have hbw : Bel w wr := hb1w.trans hb0
  have hz0 := hb0.size
  have p0 : wr.cell? ⟨w.heap.size + 1, 0, none⟩ = some (.int .i64 2) := (hb0.box (w.heap.size + 1) hl1_1 0).trans (by rw [hk1_1]; simp)
  have p1 : wr.cell? ⟨w.heap.size + 1, 1, none⟩ = some (.int .i64 op) := (hb0.box (w.heap.size + 1) hl1_1 1).trans (by rw [hk1_1]; simp)
  have p2 : wr.cell? ⟨w.heap.size + 1, 2, none⟩ = some (.int .i64 0) := (hb0.box (w.heap.size + 1) hl1_1 2).trans (by rw [hk1_1]; simp)
  have p3 : wr.cell? ⟨w.heap.size + 1, 3, none⟩ = some (.slice A l.length c) := (hb0.box (w.heap.size + 1) hl1_1 3).trans (by rw [hk1_1]; simp)
  have hl0 : w.heap.size < wr.heap.size := by omega
  have hl1 : w.heap.size + 1 < wr.heap.size := by omega
  have hn1 : ¬ w.heap.size + 1 = wr.heap.size := by omega
  by_cases h1 : m < l.length
  ·
   exact rq0
  ·
   exact rq5
set_option maxHeartbeats 8000000 in
theorem implGen_pl (s : TStore) (op : Int) (l : List TValue) (hn : 3 ≤ l.length) (hp : placeB (vAt l 0) (vAt l 1) = false) (hall : inAllB s l = true) (hval : validB s = true) : GenI s 2 op 0 l := by
 intro S S' w vs A c htab hv hR
 obtain ⟨x0, x1, x2, x3, x4, x5, x6, x7, x8, x9, x10, x11, x12⟩ := s
 have HV := hide hv
 obtain ⟨A0, c0, A1, c1, A2, c2, A3, c3, A6, c6, A7, c7, A8, c8, rfl, hlc0, hcm0, hlc1, hcm1, hlc2, hcm2, hlc3, hcm3, hlc6, hcm6, hlc7, hcm7, hlc8, hcm8, g4, g5, g10, g11, g12, HR0, HR1, HR2, HR3, HR6, HR7, HR8, HS1⟩ := TStore.opn 36 hv
 clear hv
 have HT := hide htab
 clear htab
 have HR := hide hR
 have hlen := hR.1
 have hcm := hR.2.1
 simp only [List.length_map] at hlen
 unfold maxLen at hcm
 clear hR
 have RR := hide (show (validB (TStore.mk x0 x1 x2 x3 x4 x5 x6 x7 x8 x9 x10 x11 x12) && genB (TStore.mk x0 x1 x2 x3 x4 x5 x6 x7 x8 x9 x10 x11 x12) 2 op 0 l) = false by rw [hval, Bool.true_and]; exact gen_2n (by decide) fun h => by rw [(undo_place h.2.2).1] at hp; cases hp)
 have HALL := hide hall
 have HVL := hide hval
 have fn1 : decide ((l.length : Int) < 3) = false := by simp; omega
 have HL := hide hn
 have d0 : decide ((0 : Int) < (l.length : Int)) = true := by simp; omega
 have d0n : decide (0 < l.length) = true := by simp; omega
 have i0 : 0 < l.length := by omega
 have j0 : (0 : Int) < (l.length : Int) := by omega
 have d1 : decide ((1 : Int) < (l.length : Int)) = true := by simp; omega
 have d1n : decide (1 < l.length) = true := by simp; omega
 have i1 : 1 < l.length := by omega
 have j1 : (1 : Int) < (l.length : Int) := by omega
 have d2 : decide ((2 : Int) < (l.length : Int)) = true := by simp; omega
 have d2n : decide (2 < l.length) = true := by simp; omega
 have i2 : 2 < l.length := by omega
 have j2 : (2 : Int) < (l.length : Int) := by omega
 have HP := hide hp
 clear hall hval hn hp
 go_enter Tryd.func22, Tryd.ntmps22
 have mkq := True.intro
 repeat (any_goals ((first | clear mkq | go_quiet (fail)); (try go_wp2_with (go_at_call 10; refine (implValid_any (TStore.mk x0 x1 x2 x3 x4 x5 x6 x7 x8 x9 x10 x11 x12) S _ _ (HT.out.on bl) (Dat.HoldVals.bel bl HV.out)).mono ?_; rintro e w1 ⟨rfl, hb1⟩; rw [HVL.out]; (have hz1 := hb1.sz; obtain ⟨hk1_0, hf1_0, hl1_0, hn1_0⟩ := hb1.lay (w.heap.size); obtain ⟨hk1_1, hf1_1, hl1_1, hn1_1⟩ := hb1.lay (w.heap.size + 1))))))
 have HSw := hide (show StoreAt w1 S w.heap.size (TStore.mk x0 x1 x2 x3 x4 x5 x6 x7 x8 x9 x10 x11 x12) from StoreAt.bel bl HS1.out)
 have hb1w : Bel w w1 := bl
 go_loopw [15] (fun v wr => ∃ m : Nat, v = .int .i64 m ∧ m ≤ l.length ∧ Bel w1 wr) (fun v _ => l.length - (intOf v).toNat)
 case atStart => exact ⟨0, rfl, by omega, Bel.refl _⟩
 case round =>
  obtain ⟨m, rfl, m1, hb0⟩ := hrel
  have HSr := hide (StoreAt.bel hb0 HSw.out)
  have hbw : Bel w wr := hb1w.trans hb0
  have hz0 := hb0.size
  have p0 : wr.cell? ⟨w.heap.size + 1, 0, none⟩ = some (.int .i64 2) := (hb0.box (w.heap.size + 1) hl1_1 0).trans (by rw [hk1_1]; simp)
  have p1 : wr.cell? ⟨w.heap.size + 1, 1, none⟩ = some (.int .i64 op) := (hb0.box (w.heap.size + 1) hl1_1 1).trans (by rw [hk1_1]; simp)
  have p2 : wr.cell? ⟨w.heap.size + 1, 2, none⟩ = some (.int .i64 0) := (hb0.box (w.heap.size + 1) hl1_1 2).trans (by rw [hk1_1]; simp)
  have p3 : wr.cell? ⟨w.heap.size + 1, 3, none⟩ = some (.slice A l.length c) := (hb0.box (w.heap.size + 1) hl1_1 3).trans (by rw [hk1_1]; simp)
  have hl0 : w.heap.size < wr.heap.size := by omega
  have hl1 : w.heap.size + 1 < wr.heap.size := by omega
  have hn1 : ¬ w.heap.size + 1 = wr.heap.size := by omega
  by_cases h1 : m < l.length
  ·
   exact rq0
  ·
   have hd : decide ((m : Int) < (l.length : Int)) = false := by simp; omega
   (obtain ⟨b22, o22, x22_0, x22_1, x22_2, x22_3, x22_4, x22_5, hA22, hS22, hl22, hx22, hv22, g22_0, g22_1, g22_2, g22_3, g22_4, g22_5, c22_0, c22_1, c22_2, c22_3, c22_4, c22_5⟩ := TValue.at HR.out 0 (by have := HL.out; omega); subst hA22; have HV22 := hide (Dat.HoldVals.bel hbw hv22); have hh22 := hbw.box b22 hl22; have hw22 := Nat.lt_of_lt_of_le hl22 (Bel.size hbw); replace c22_0 := (hh22 _).trans c22_0; replace c22_1 := (hh22 _).trans c22_1; replace c22_2 := (hh22 _).trans c22_2; replace c22_3 := (hh22 _).trans c22_3; replace c22_4 := (hh22 _).trans c22_4; replace c22_5 := (hh22 _).trans c22_5; have HX22 := hide hx22; clear hh22 hv22 hx22 hS22; simp only [Nat.zero_mul, Nat.one_mul, Nat.add_zero, Nat.reduceMul, Nat.add_assoc, Nat.reduceAdd] at c22_0 c22_1 c22_2 c22_3 c22_4 c22_5)
   (obtain ⟨b23, o23, x23_0, x23_1, x23_2, x23_3, x23_4, x23_5, hA23, hS23, hl23, hx23, hv23, g23_0, g23_1, g23_2, g23_3, g23_4, g23_5, c23_0, c23_1, c23_2, c23_3, c23_4, c23_5⟩ := TValue.at HR.out 1 (by have := HL.out; omega); injection Option.some.inj hA23 with qb23 qo23 _; subst qb23 qo23; have HV23 := hide (Dat.HoldVals.bel hbw hv23); have hh23 := hbw.box b22 hl23; have hw23 := Nat.lt_of_lt_of_le hl23 (Bel.size hbw); replace c23_0 := (hh23 _).trans c23_0; replace c23_1 := (hh23 _).trans c23_1; replace c23_2 := (hh23 _).trans c23_2; replace c23_3 := (hh23 _).trans c23_3; replace c23_4 := (hh23 _).trans c23_4; replace c23_5 := (hh23 _).trans c23_5; have HX23 := hide hx23; clear hh23 hv23 hx23 hS23; simp only [Nat.zero_mul, Nat.one_mul, Nat.add_zero, Nat.reduceMul, Nat.add_assoc, Nat.reduceAdd] at c23_0 c23_1 c23_2 c23_3 c23_4 c23_5)
   (obtain ⟨b24, o24, x24_0, x24_1, x24_2, x24_3, x24_4, x24_5, hA24, hS24, hl24, hx24, hv24, g24_0, g24_1, g24_2, g24_3, g24_4, g24_5, c24_0, c24_1, c24_2, c24_3, c24_4, c24_5⟩ := TValue.at HR.out 2 (by have := HL.out; omega); injection Option.some.inj hA24 with qb24 qo24 _; subst qb24 qo24; have HV24 := hide (Dat.HoldVals.bel hbw hv24); have hh24 := hbw.box b22 hl24; have hw24 := Nat.lt_of_lt_of_le hl24 (Bel.size hbw); replace c24_0 := (hh24 _).trans c24_0; replace c24_1 := (hh24 _).trans c24_1; replace c24_2 := (hh24 _).trans c24_2; replace c24_3 := (hh24 _).trans c24_3; replace c24_4 := (hh24 _).trans c24_4; replace c24_5 := (hh24 _).trans c24_5; have HX24 := hide hx24; clear hh24 hv24 hx24 hS24; simp only [Nat.zero_mul, Nat.one_mul, Nat.add_zero, Nat.reduceMul, Nat.add_assoc, Nat.reduceAdd] at c24_0 c24_1 c24_2 c24_3 c24_4 c24_5)
   have hb2w : b22 < wr.heap.size := by omega
   have hne22 : ¬ b22 = wr.heap.size := by omega
   have HV0 := hide (show vAt l 0 = ⟨x22_0, x22_1, x22_2, x22_3, x22_4, x22_5⟩ by rw [vAt_get (by have := HL.out; omega), HX22.out]; rfl)
   have HV1 := hide (show vAt l 1 = ⟨x23_0, x23_1, x23_2, x23_3, x23_4, x23_5⟩ by rw [vAt_get (by have := HL.out; omega), HX23.out]; rfl)
   have HV2 := hide (show vAt l 2 = ⟨x24_0, x24_1, x24_2, x24_3, x24_4, x24_5⟩ by rw [vAt_get (by have := HL.out; omega), HX24.out]; rfl)
   have HW := hide (show x22_0 = 2 → x22_3.size ≤ 120 from fun hk => by have := well_t2 (v := l[0].v) (inB_well (inAll_at HALL.out (i := 0) (by have := HL.out; omega))) (by rw [HX22.out]; exact hk); rw [HX22.out] at this; exact this)
   have HGP := hide (show placeB ⟨x22_0, x22_1, x22_2, x22_3, x22_4, x22_5⟩ ⟨x23_0, x23_1, x23_2, x23_3, x23_4, x23_5⟩ = false by have := HP.out; rw [HV0.out, HV1.out] at this; exact this)
   go_wp2_with (fail)
   repeat (any_goals (go_quiet (fail); (try go_wp2_with (fail))))
   refine wp_region_held_drew (S := fun w' => w'.cell? ⟨w.heap.size + 1, 0, none⟩ = some (.int .i64 2) ∧ w'.cell? ⟨w.heap.size + 1, 2, none⟩ = some (.int .i64 0) ∧ w'.cell? ⟨w.heap.size + 1, 3, none⟩ = some (.slice (some ⟨b22, o22, none⟩) l.length c) ∧ w'.cell? ⟨b22, o22, none⟩ = some (.int .i64 x22_0) ∧ w'.cell? ⟨b22, o22 + 1, none⟩ = some (.int .i64 x22_1) ∧ w'.cell? ⟨b22, o22 + 2, none⟩ = some (.int .i64 x22_2) ∧ w'.cell? ⟨b22, o22 + 3, none⟩ = some (.string x22_3) ∧ w'.cell? ⟨b22, o22 + 4, none⟩ = some (.int .i64 x22_4) ∧ w'.cell? ⟨b22, o22 + 5, none⟩ = some (.int .i64 x22_5) ∧ w'.cell? ⟨b22, o22 + 6, none⟩ = some (.int .i64 x23_0) ∧ w'.cell? ⟨b22, o22 + 7, none⟩ = some (.int .i64 x23_1) ∧ w'.cell? ⟨b22, o22 + 8, none⟩ = some (.int .i64 x23_2) ∧ w'.cell? ⟨b22, o22 + 9, none⟩ = some (.string x23_3) ∧ w'.cell? ⟨b22, o22 + 10, none⟩ = some (.int .i64 x23_4) ∧ w'.cell? ⟨b22, o22 + 11, none⟩ = some (.int .i64 x23_5) ∧ w'.cell? ⟨b22, o22 + 12, none⟩ = some (.int .i64 x24_0) ∧ w'.cell? ⟨b22, o22 + 13, none⟩ = some (.int .i64 x24_1)) (by kernel_rfl) ?_ (fun hHeld => ?_)
   ·
    exact rq2
   refine tkI 0 ?_
   refine tkI 1 ?_
   refine tkI 2 ?_
   refine tkI 3 ?_
   refine tkI 4 ?_
   refine tkI 5 ?_
   refine tkI 6 ?_
   refine tkI 7 ?_
   refine tkI 8 ?_
   refine tkI 9 ?_
   refine tkI 10 ?_
   refine tkI 11 ?_
   refine tkI 12 ?_
   refine tkI 13 ?_
   refine tkI 14 ?_
   refine tkI 15 ?_
   refine tkI 16 ?_
   refine tkI 17 ?_
   refine tkI 18 ?_
   refine tkI 19 ?_
   refine tkI 20 ?_
   refine wpAnyH_ready (rs := [21]) (by kernel_rfl) (by simp) ?_
   refine AllReadyH.cons (o := _) rfl (fun K hK => ?_) AllReadyH.nil
   go_simp
   clear hHeld
   (go_at_call 57; refine (isPlace_any ⟨x22_0, x22_1, x22_2, x22_3, x22_4, x22_5⟩ ⟨x23_0, x23_1, x23_2, x23_3, x23_4, x23_5⟩ _ HW.out).mono ?_; rintro e w9 ⟨rfl, hb9⟩; rw [HGP.out]; (have hz9 := hb9.sz; obtain ⟨hk9_0, hf9_0, hl9_0, hn9_0⟩ := hb9.lay (w.heap.size + 1); obtain ⟨hk9_1, hf9_1, hl9_1, hn9_1⟩ := hb9.lay (b22)))
   refine hK.out _ _ ?_ (fun hHeld => ?_)
   ·
    exact rq2
   clear hK K
   (try simp only [Act.put, List.setIfInBounds_toArray, List.set_cons_zero, List.set_cons_succ, List.getElem_toArray, List.getElem_cons_zero, List.getElem_cons_succ])
   refine tkI 22 ?_
   refine tkI 23 ?_
   refine tkI 24 ?_
   refine tkN 25 ?_
   refine tkN 26 ?_
   refine tkN 27 ?_
   refine tkN 28 ?_
   refine tkN 29 ?_
   refine tkN 30 ?_
   refine tkI 31 ?_
   refine wpAnyH_done (by kernel_rfl) ?_ _
   all_goals (try (go_wp2_with (fail)))
   all_goals
    go_returns
    exact ⟨by rw [RR.out]; first | done | rfl, bl⟩
set_option maxHeartbeats 8000000 in
theorem implGen_m2 (s : TStore) (op : Int) (l : List TValue) (hn : 3 ≤ l.length) (hp : placeB (vAt l 0) (vAt l 1) = true) (hk : (vAt l 2).k ≠ 1) (hall : inAllB s l = true) (hval : validB s = true) : GenI s 2 op 0 l := by
 intro S S' w vs A c htab hv hR
 obtain ⟨x0, x1, x2, x3, x4, x5, x6, x7, x8, x9, x10, x11, x12⟩ := s
 have HV := hide hv
 obtain ⟨A0, c0, A1, c1, A2, c2, A3, c3, A6, c6, A7, c7, A8, c8, rfl, hlc0, hcm0, hlc1, hcm1, hlc2, hcm2, hlc3, hcm3, hlc6, hcm6, hlc7, hcm7, hlc8, hcm8, g4, g5, g10, g11, g12, HR0, HR1, HR2, HR3, HR6, HR7, HR8, HS1⟩ := TStore.opn 36 hv
 clear hv
 have HT := hide htab
 clear htab
 have HR := hide hR
 have hlen := hR.1
 have hcm := hR.2.1
 simp only [List.length_map] at hlen
 unfold maxLen at hcm
 clear hR
 have RR := hide (show (validB (TStore.mk x0 x1 x2 x3 x4 x5 x6 x7 x8 x9 x10 x11 x12) && genB (TStore.mk x0 x1 x2 x3 x4 x5 x6 x7 x8 x9 x10 x11 x12) 2 op 0 l) = false by rw [hval, Bool.true_and]; exact gen_2n (by decide) fun h => hk (undo_place h.2.2).2)
 have HALL := hide hall
 have HVL := hide hval
 have fn1 : decide ((l.length : Int) < 3) = false := by simp; omega
 have HL := hide hn
 have d0 : decide ((0 : Int) < (l.length : Int)) = true := by simp; omega
 have d0n : decide (0 < l.length) = true := by simp; omega
 have i0 : 0 < l.length := by omega
 have j0 : (0 : Int) < (l.length : Int) := by omega
 have d1 : decide ((1 : Int) < (l.length : Int)) = true := by simp; omega
 have d1n : decide (1 < l.length) = true := by simp; omega
 have i1 : 1 < l.length := by omega
 have j1 : (1 : Int) < (l.length : Int) := by omega
 have d2 : decide ((2 : Int) < (l.length : Int)) = true := by simp; omega
 have d2n : decide (2 < l.length) = true := by simp; omega
 have i2 : 2 < l.length := by omega
 have j2 : (2 : Int) < (l.length : Int) := by omega
 have HP := hide hp
 have HKN := hide hk
 clear hall hval hn hp hk
 go_enter Tryd.func22, Tryd.ntmps22
 have mkq := True.intro
 repeat (any_goals ((first | clear mkq | go_quiet (fail)); (try go_wp2_with (go_at_call 10; refine (implValid_any (TStore.mk x0 x1 x2 x3 x4 x5 x6 x7 x8 x9 x10 x11 x12) S _ _ (HT.out.on bl) (Dat.HoldVals.bel bl HV.out)).mono ?_; rintro e w1 ⟨rfl, hb1⟩; rw [HVL.out]; (have hz1 := hb1.sz; obtain ⟨hk1_0, hf1_0, hl1_0, hn1_0⟩ := hb1.lay (w.heap.size); obtain ⟨hk1_1, hf1_1, hl1_1, hn1_1⟩ := hb1.lay (w.heap.size + 1))))))
 have HSw := hide (show StoreAt w1 S w.heap.size (TStore.mk x0 x1 x2 x3 x4 x5 x6 x7 x8 x9 x10 x11 x12) from StoreAt.bel bl HS1.out)
 have hb1w : Bel w w1 := bl
 go_loopw [15] (fun v wr => ∃ m : Nat, v = .int .i64 m ∧ m ≤ l.length ∧ Bel w1 wr) (fun v _ => l.length - (intOf v).toNat)
 case atStart => exact ⟨0, rfl, by omega, Bel.refl _⟩
 case round =>
  obtain ⟨m, rfl, m1, hb0⟩ := hrel
  have HSr := hide (StoreAt.bel hb0 HSw.out)
  have hbw : Bel w wr := hb1w.trans hb0
  have hz0 := hb0.size
  have p0 : wr.cell? ⟨w.heap.size + 1, 0, none⟩ = some (.int .i64 2) := (hb0.box (w.heap.size + 1) hl1_1 0).trans (by rw [hk1_1]; simp)
  have p1 : wr.cell? ⟨w.heap.size + 1, 1, none⟩ = some (.int .i64 op) := (hb0.box (w.heap.size + 1) hl1_1 1).trans (by rw [hk1_1]; simp)
  have p2 : wr.cell? ⟨w.heap.size + 1, 2, none⟩ = some (.int .i64 0) := (hb0.box (w.heap.size + 1) hl1_1 2).trans (by rw [hk1_1]; simp)
  have p3 : wr.cell? ⟨w.heap.size + 1, 3, none⟩ = some (.slice A l.length c) := (hb0.box (w.heap.size + 1) hl1_1 3).trans (by rw [hk1_1]; simp)
  have hl0 : w.heap.size < wr.heap.size := by omega
  have hl1 : w.heap.size + 1 < wr.heap.size := by omega
  have hn1 : ¬ w.heap.size + 1 = wr.heap.size := by omega
  by_cases h1 : m < l.length
  ·
   exact rq0
  ·
   have hd : decide ((m : Int) < (l.length : Int)) = false := by simp; omega
   (obtain ⟨b22, o22, x22_0, x22_1, x22_2, x22_3, x22_4, x22_5, hA22, hS22, hl22, hx22, hv22, g22_0, g22_1, g22_2, g22_3, g22_4, g22_5, c22_0, c22_1, c22_2, c22_3, c22_4, c22_5⟩ := TValue.at HR.out 0 (by have := HL.out; omega); subst hA22; have HV22 := hide (Dat.HoldVals.bel hbw hv22); have hh22 := hbw.box b22 hl22; have hw22 := Nat.lt_of_lt_of_le hl22 (Bel.size hbw); replace c22_0 := (hh22 _).trans c22_0; replace c22_1 := (hh22 _).trans c22_1; replace c22_2 := (hh22 _).trans c22_2; replace c22_3 := (hh22 _).trans c22_3; replace c22_4 := (hh22 _).trans c22_4; replace c22_5 := (hh22 _).trans c22_5; have HX22 := hide hx22; clear hh22 hv22 hx22 hS22; simp only [Nat.zero_mul, Nat.one_mul, Nat.add_zero, Nat.reduceMul, Nat.add_assoc, Nat.reduceAdd] at c22_0 c22_1 c22_2 c22_3 c22_4 c22_5)
   (obtain ⟨b23, o23, x23_0, x23_1, x23_2, x23_3, x23_4, x23_5, hA23, hS23, hl23, hx23, hv23, g23_0, g23_1, g23_2, g23_3, g23_4, g23_5, c23_0, c23_1, c23_2, c23_3, c23_4, c23_5⟩ := TValue.at HR.out 1 (by have := HL.out; omega); injection Option.some.inj hA23 with qb23 qo23 _; subst qb23 qo23; have HV23 := hide (Dat.HoldVals.bel hbw hv23); have hh23 := hbw.box b22 hl23; have hw23 := Nat.lt_of_lt_of_le hl23 (Bel.size hbw); replace c23_0 := (hh23 _).trans c23_0; replace c23_1 := (hh23 _).trans c23_1; replace c23_2 := (hh23 _).trans c23_2; replace c23_3 := (hh23 _).trans c23_3; replace c23_4 := (hh23 _).trans c23_4; replace c23_5 := (hh23 _).trans c23_5; have HX23 := hide hx23; clear hh23 hv23 hx23 hS23; simp only [Nat.zero_mul, Nat.one_mul, Nat.add_zero, Nat.reduceMul, Nat.add_assoc, Nat.reduceAdd] at c23_0 c23_1 c23_2 c23_3 c23_4 c23_5)
   (obtain ⟨b24, o24, x24_0, x24_1, x24_2, x24_3, x24_4, x24_5, hA24, hS24, hl24, hx24, hv24, g24_0, g24_1, g24_2, g24_3, g24_4, g24_5, c24_0, c24_1, c24_2, c24_3, c24_4, c24_5⟩ := TValue.at HR.out 2 (by have := HL.out; omega); injection Option.some.inj hA24 with qb24 qo24 _; subst qb24 qo24; have HV24 := hide (Dat.HoldVals.bel hbw hv24); have hh24 := hbw.box b22 hl24; have hw24 := Nat.lt_of_lt_of_le hl24 (Bel.size hbw); replace c24_0 := (hh24 _).trans c24_0; replace c24_1 := (hh24 _).trans c24_1; replace c24_2 := (hh24 _).trans c24_2; replace c24_3 := (hh24 _).trans c24_3; replace c24_4 := (hh24 _).trans c24_4; replace c24_5 := (hh24 _).trans c24_5; have HX24 := hide hx24; clear hh24 hv24 hx24 hS24; simp only [Nat.zero_mul, Nat.one_mul, Nat.add_zero, Nat.reduceMul, Nat.add_assoc, Nat.reduceAdd] at c24_0 c24_1 c24_2 c24_3 c24_4 c24_5)
   have hb2w : b22 < wr.heap.size := by omega
   have hne22 : ¬ b22 = wr.heap.size := by omega
   have HV0 := hide (show vAt l 0 = ⟨x22_0, x22_1, x22_2, x22_3, x22_4, x22_5⟩ by rw [vAt_get (by have := HL.out; omega), HX22.out]; rfl)
   have HV1 := hide (show vAt l 1 = ⟨x23_0, x23_1, x23_2, x23_3, x23_4, x23_5⟩ by rw [vAt_get (by have := HL.out; omega), HX23.out]; rfl)
   have HV2 := hide (show vAt l 2 = ⟨x24_0, x24_1, x24_2, x24_3, x24_4, x24_5⟩ by rw [vAt_get (by have := HL.out; omega), HX24.out]; rfl)
   have HW := hide (show x22_0 = 2 → x22_3.size ≤ 120 from fun hk => by have := well_t2 (v := l[0].v) (inB_well (inAll_at HALL.out (i := 0) (by have := HL.out; omega))) (by rw [HX22.out]; exact hk); rw [HX22.out] at this; exact this)
   have HGP := hide (show placeB ⟨x22_0, x22_1, x22_2, x22_3, x22_4, x22_5⟩ ⟨x23_0, x23_1, x23_2, x23_3, x23_4, x23_5⟩ = true by have := HP.out; rw [HV0.out, HV1.out] at this; exact this)
   have f2 : (x24_0 != 1) = true := by rw [bne_iff_ne]; have := HKN.out; rw [HV2.out] at this; exact this
   go_wp2_with (fail)
   repeat (any_goals (go_quiet (fail); (try go_wp2_with (fail))))
   refine wp_region_held_drew (S := fun w' => w'.cell? ⟨w.heap.size + 1, 0, none⟩ = some (.int .i64 2) ∧ w'.cell? ⟨w.heap.size + 1, 2, none⟩ = some (.int .i64 0) ∧ w'.cell? ⟨w.heap.size + 1, 3, none⟩ = some (.slice (some ⟨b22, o22, none⟩) l.length c) ∧ w'.cell? ⟨b22, o22, none⟩ = some (.int .i64 x22_0) ∧ w'.cell? ⟨b22, o22 + 1, none⟩ = some (.int .i64 x22_1) ∧ w'.cell? ⟨b22, o22 + 2, none⟩ = some (.int .i64 x22_2) ∧ w'.cell? ⟨b22, o22 + 3, none⟩ = some (.string x22_3) ∧ w'.cell? ⟨b22, o22 + 4, none⟩ = some (.int .i64 x22_4) ∧ w'.cell? ⟨b22, o22 + 5, none⟩ = some (.int .i64 x22_5) ∧ w'.cell? ⟨b22, o22 + 6, none⟩ = some (.int .i64 x23_0) ∧ w'.cell? ⟨b22, o22 + 7, none⟩ = some (.int .i64 x23_1) ∧ w'.cell? ⟨b22, o22 + 8, none⟩ = some (.int .i64 x23_2) ∧ w'.cell? ⟨b22, o22 + 9, none⟩ = some (.string x23_3) ∧ w'.cell? ⟨b22, o22 + 10, none⟩ = some (.int .i64 x23_4) ∧ w'.cell? ⟨b22, o22 + 11, none⟩ = some (.int .i64 x23_5) ∧ w'.cell? ⟨b22, o22 + 12, none⟩ = some (.int .i64 x24_0) ∧ w'.cell? ⟨b22, o22 + 13, none⟩ = some (.int .i64 x24_1)) (by kernel_rfl) ?_ (fun hHeld => ?_)
   ·
    exact rq2
   refine tkI 0 ?_
   refine tkI 1 ?_
   refine tkI 2 ?_
   refine tkI 3 ?_
   refine tkI 4 ?_
   refine tkI 5 ?_
   refine tkI 6 ?_
   refine tkI 7 ?_
   refine tkI 8 ?_
   refine tkI 9 ?_
   refine tkI 10 ?_
   refine tkI 11 ?_
   refine tkI 12 ?_
   refine tkI 13 ?_
   refine tkI 14 ?_
   refine tkI 15 ?_
   refine tkI 16 ?_
   refine tkI 17 ?_
   refine tkI 18 ?_
   refine tkI 19 ?_
   refine tkI 20 ?_
   refine wpAnyH_ready (rs := [21]) (by kernel_rfl) (by simp) ?_
   refine AllReadyH.cons (o := _) rfl (fun K hK => ?_) AllReadyH.nil
   go_simp
   clear hHeld
   (go_at_call 57; refine (isPlace_any ⟨x22_0, x22_1, x22_2, x22_3, x22_4, x22_5⟩ ⟨x23_0, x23_1, x23_2, x23_3, x23_4, x23_5⟩ _ HW.out).mono ?_; rintro e w9 ⟨rfl, hb9⟩; rw [HGP.out]; (have hz9 := hb9.sz; obtain ⟨hk9_0, hf9_0, hl9_0, hn9_0⟩ := hb9.lay (w.heap.size + 1); obtain ⟨hk9_1, hf9_1, hl9_1, hn9_1⟩ := hb9.lay (b22)))
   refine hK.out _ _ ?_ (fun hHeld => ?_)
   ·
    exact rq2
   clear hK K
   (try simp only [Act.put, List.setIfInBounds_toArray, List.set_cons_zero, List.set_cons_succ, List.getElem_toArray, List.getElem_cons_zero, List.getElem_cons_succ])
   refine tkI 22 ?_
   refine tkI 23 ?_
   refine tkI 24 ?_
   refine tkI 25 ?_
   refine tkI 26 ?_
   refine tkI 27 ?_
   refine tkI 28 ?_
   refine tkI 29 ?_
   refine tkI 30 ?_
   refine tkI 31 ?_
   refine wpAnyH_done (by kernel_rfl) ?_ _
   all_goals (try (go_wp2_with (fail)))
   all_goals
    go_returns
    exact ⟨by rw [RR.out]; first | done | rfl, bl⟩
end Go.Proofs.YtebbpcgiacckfaaDoor
namespace Go.Proofs.YtebbpcgiacckfaaDoor
set_option linter.unusedVariables false
set_option linter.unusedSimpArgs false
set_option maxRecDepth 100000
open Go.RowKit
--%quiet
set_option maxHeartbeats 8000000 in
theorem implGen_y2 (s : TStore) (op : Int) (l : List TValue) (hn : 3 ≤ l.length) (hp : placeB (vAt l 0) (vAt l 1) = true) (hk : (vAt l 2).k = 1) (hall : inAllB s l = true) (hval : validB s = true) : GenI s 2 op 0 l := by
 intro S S' w vs A c htab hv hR
 obtain ⟨x0, x1, x2, x3, x4, x5, x6, x7, x8, x9, x10, x11, x12⟩ := s
 have HV := hide hv
 obtain ⟨A0, c0, A1, c1, A2, c2, A3, c3, A6, c6, A7, c7, A8, c8, rfl, hlc0, hcm0, hlc1, hcm1, hlc2, hcm2, hlc3, hcm3, hlc6, hcm6, hlc7, hcm7, hlc8, hcm8, g4, g5, g10, g11, g12, HR0, HR1, HR2, HR3, HR6, HR7, HR8, HS1⟩ := TStore.opn 36 hv
 clear hv
 have HT := hide htab
 clear htab
 have HR := hide hR
 have hlen := hR.1
 have hcm := hR.2.1
 simp only [List.length_map] at hlen
 unfold maxLen at hcm
 clear hR
 have RU := hide (show (validB (TStore.mk x0 x1 x2 x3 x4 x5 x6 x7 x8 x9 x10 x11 x12) && genB (TStore.mk x0 x1 x2 x3 x4 x5 x6 x7 x8 x9 x10 x11 x12) 2 op 0 l) = undoB op l by rw [hval, Bool.true_and]; exact gen_2y hall)
 have HALL := hide hall
 have HVL := hide hval
 have fn1 : decide ((l.length : Int) < 3) = false := by simp; omega
 have HL := hide hn
 have d0 : decide ((0 : Int) < (l.length : Int)) = true := by simp; omega
 have d0n : decide (0 < l.length) = true := by simp; omega
 have i0 : 0 < l.length := by omega
 have j0 : (0 : Int) < (l.length : Int) := by omega
 have d1 : decide ((1 : Int) < (l.length : Int)) = true := by simp; omega
 have d1n : decide (1 < l.length) = true := by simp; omega
 have i1 : 1 < l.length := by omega
 have j1 : (1 : Int) < (l.length : Int) := by omega
 have d2 : decide ((2 : Int) < (l.length : Int)) = true := by simp; omega
 have d2n : decide (2 < l.length) = true := by simp; omega
 have i2 : 2 < l.length := by omega
 have j2 : (2 : Int) < (l.length : Int) := by omega
 have HP := hide hp
 have HKN := hide hk
 clear hall hval hn hp hk
 go_enter Tryd.func22, Tryd.ntmps22
 have mkq := True.intro
 repeat (any_goals ((first | clear mkq | go_quiet (fail)); (try go_wp2_with (go_at_call 10; refine (implValid_any (TStore.mk x0 x1 x2 x3 x4 x5 x6 x7 x8 x9 x10 x11 x12) S _ _ (HT.out.on bl) (Dat.HoldVals.bel bl HV.out)).mono ?_; rintro e w1 ⟨rfl, hb1⟩; rw [HVL.out]; (have hz1 := hb1.sz; obtain ⟨hk1_0, hf1_0, hl1_0, hn1_0⟩ := hb1.lay (w.heap.size); obtain ⟨hk1_1, hf1_1, hl1_1, hn1_1⟩ := hb1.lay (w.heap.size + 1))))))
 have HSw := hide (show StoreAt w1 S w.heap.size (TStore.mk x0 x1 x2 x3 x4 x5 x6 x7 x8 x9 x10 x11 x12) from StoreAt.bel bl HS1.out)
 have hb1w : Bel w w1 := bl
 go_loopw [15] (fun v wr => ∃ m : Nat, v = .int .i64 m ∧ m ≤ l.length ∧ Bel w1 wr) (fun v _ => l.length - (intOf v).toNat)
 case atStart => exact ⟨0, rfl, by omega, Bel.refl _⟩
 case round =>
  obtain ⟨m, rfl, m1, hb0⟩ := hrel
  have HSr := hide (StoreAt.bel hb0 HSw.out)
  have hbw : Bel w wr := hb1w.trans hb0
  have hz0 := hb0.size
  have p0 : wr.cell? ⟨w.heap.size + 1, 0, none⟩ = some (.int .i64 2) := (hb0.box (w.heap.size + 1) hl1_1 0).trans (by rw [hk1_1]; simp)
  have p1 : wr.cell? ⟨w.heap.size + 1, 1, none⟩ = some (.int .i64 op) := (hb0.box (w.heap.size + 1) hl1_1 1).trans (by rw [hk1_1]; simp)
  have p2 : wr.cell? ⟨w.heap.size + 1, 2, none⟩ = some (.int .i64 0) := (hb0.box (w.heap.size + 1) hl1_1 2).trans (by rw [hk1_1]; simp)
  have p3 : wr.cell? ⟨w.heap.size + 1, 3, none⟩ = some (.slice A l.length c) := (hb0.box (w.heap.size + 1) hl1_1 3).trans (by rw [hk1_1]; simp)
  have hl0 : w.heap.size < wr.heap.size := by omega
  have hl1 : w.heap.size + 1 < wr.heap.size := by omega
  have hn1 : ¬ w.heap.size + 1 = wr.heap.size := by omega
  by_cases h1 : m < l.length
  ·
   exact rq0
  ·
   have hd : decide ((m : Int) < (l.length : Int)) = false := by simp; omega
   (obtain ⟨b22, o22, x22_0, x22_1, x22_2, x22_3, x22_4, x22_5, hA22, hS22, hl22, hx22, hv22, g22_0, g22_1, g22_2, g22_3, g22_4, g22_5, c22_0, c22_1, c22_2, c22_3, c22_4, c22_5⟩ := TValue.at HR.out 0 (by have := HL.out; omega); subst hA22; have HV22 := hide (Dat.HoldVals.bel hbw hv22); have hh22 := hbw.box b22 hl22; have hw22 := Nat.lt_of_lt_of_le hl22 (Bel.size hbw); replace c22_0 := (hh22 _).trans c22_0; replace c22_1 := (hh22 _).trans c22_1; replace c22_2 := (hh22 _).trans c22_2; replace c22_3 := (hh22 _).trans c22_3; replace c22_4 := (hh22 _).trans c22_4; replace c22_5 := (hh22 _).trans c22_5; have HX22 := hide hx22; clear hh22 hv22 hx22 hS22; simp only [Nat.zero_mul, Nat.one_mul, Nat.add_zero, Nat.reduceMul, Nat.add_assoc, Nat.reduceAdd] at c22_0 c22_1 c22_2 c22_3 c22_4 c22_5)
   (obtain ⟨b23, o23, x23_0, x23_1, x23_2, x23_3, x23_4, x23_5, hA23, hS23, hl23, hx23, hv23, g23_0, g23_1, g23_2, g23_3, g23_4, g23_5, c23_0, c23_1, c23_2, c23_3, c23_4, c23_5⟩ := TValue.at HR.out 1 (by have := HL.out; omega); injection Option.some.inj hA23 with qb23 qo23 _; subst qb23 qo23; have HV23 := hide (Dat.HoldVals.bel hbw hv23); have hh23 := hbw.box b22 hl23; have hw23 := Nat.lt_of_lt_of_le hl23 (Bel.size hbw); replace c23_0 := (hh23 _).trans c23_0; replace c23_1 := (hh23 _).trans c23_1; replace c23_2 := (hh23 _).trans c23_2; replace c23_3 := (hh23 _).trans c23_3; replace c23_4 := (hh23 _).trans c23_4; replace c23_5 := (hh23 _).trans c23_5; have HX23 := hide hx23; clear hh23 hv23 hx23 hS23; simp only [Nat.zero_mul, Nat.one_mul, Nat.add_zero, Nat.reduceMul, Nat.add_assoc, Nat.reduceAdd] at c23_0 c23_1 c23_2 c23_3 c23_4 c23_5)
   (obtain ⟨b24, o24, x24_0, x24_1, x24_2, x24_3, x24_4, x24_5, hA24, hS24, hl24, hx24, hv24, g24_0, g24_1, g24_2, g24_3, g24_4, g24_5, c24_0, c24_1, c24_2, c24_3, c24_4, c24_5⟩ := TValue.at HR.out 2 (by have := HL.out; omega); injection Option.some.inj hA24 with qb24 qo24 _; subst qb24 qo24; have HV24 := hide (Dat.HoldVals.bel hbw hv24); have hh24 := hbw.box b22 hl24; have hw24 := Nat.lt_of_lt_of_le hl24 (Bel.size hbw); replace c24_0 := (hh24 _).trans c24_0; replace c24_1 := (hh24 _).trans c24_1; replace c24_2 := (hh24 _).trans c24_2; replace c24_3 := (hh24 _).trans c24_3; replace c24_4 := (hh24 _).trans c24_4; replace c24_5 := (hh24 _).trans c24_5; have HX24 := hide hx24; clear hh24 hv24 hx24 hS24; simp only [Nat.zero_mul, Nat.one_mul, Nat.add_zero, Nat.reduceMul, Nat.add_assoc, Nat.reduceAdd] at c24_0 c24_1 c24_2 c24_3 c24_4 c24_5)
   have hb2w : b22 < wr.heap.size := by omega
   have hne22 : ¬ b22 = wr.heap.size := by omega
   have HV0 := hide (show vAt l 0 = ⟨x22_0, x22_1, x22_2, x22_3, x22_4, x22_5⟩ by rw [vAt_get (by have := HL.out; omega), HX22.out]; rfl)
   have HV1 := hide (show vAt l 1 = ⟨x23_0, x23_1, x23_2, x23_3, x23_4, x23_5⟩ by rw [vAt_get (by have := HL.out; omega), HX23.out]; rfl)
   have HV2 := hide (show vAt l 2 = ⟨x24_0, x24_1, x24_2, x24_3, x24_4, x24_5⟩ by rw [vAt_get (by have := HL.out; omega), HX24.out]; rfl)
   have HW := hide (show x22_0 = 2 → x22_3.size ≤ 120 from fun hk => by have := well_t2 (v := l[0].v) (inB_well (inAll_at HALL.out (i := 0) (by have := HL.out; omega))) (by rw [HX22.out]; exact hk); rw [HX22.out] at this; exact this)
   have HGP := hide (show placeB ⟨x22_0, x22_1, x22_2, x22_3, x22_4, x22_5⟩ ⟨x23_0, x23_1, x23_2, x23_3, x23_4, x23_5⟩ = true by have := HP.out; rw [HV0.out, HV1.out] at this; exact this)
   have f2 : (x24_0 != 1) = false := by rw [bne_eq_false_iff_eq]; have := HKN.out; rw [HV2.out] at this; exact this
   go_wp2_with (fail)
   repeat (any_goals (go_quiet (fail); (try go_wp2_with (fail))))
   refine wp_region_held_drew (S := fun w' => w'.cell? ⟨w.heap.size + 1, 0, none⟩ = some (.int .i64 2) ∧ w'.cell? ⟨w.heap.size + 1, 2, none⟩ = some (.int .i64 0) ∧ w'.cell? ⟨w.heap.size + 1, 3, none⟩ = some (.slice (some ⟨b22, o22, none⟩) l.length c) ∧ w'.cell? ⟨b22, o22, none⟩ = some (.int .i64 x22_0) ∧ w'.cell? ⟨b22, o22 + 1, none⟩ = some (.int .i64 x22_1) ∧ w'.cell? ⟨b22, o22 + 2, none⟩ = some (.int .i64 x22_2) ∧ w'.cell? ⟨b22, o22 + 3, none⟩ = some (.string x22_3) ∧ w'.cell? ⟨b22, o22 + 4, none⟩ = some (.int .i64 x22_4) ∧ w'.cell? ⟨b22, o22 + 5, none⟩ = some (.int .i64 x22_5) ∧ w'.cell? ⟨b22, o22 + 6, none⟩ = some (.int .i64 x23_0) ∧ w'.cell? ⟨b22, o22 + 7, none⟩ = some (.int .i64 x23_1) ∧ w'.cell? ⟨b22, o22 + 8, none⟩ = some (.int .i64 x23_2) ∧ w'.cell? ⟨b22, o22 + 9, none⟩ = some (.string x23_3) ∧ w'.cell? ⟨b22, o22 + 10, none⟩ = some (.int .i64 x23_4) ∧ w'.cell? ⟨b22, o22 + 11, none⟩ = some (.int .i64 x23_5) ∧ w'.cell? ⟨b22, o22 + 12, none⟩ = some (.int .i64 x24_0) ∧ w'.cell? ⟨b22, o22 + 13, none⟩ = some (.int .i64 x24_1)) (by kernel_rfl) ?_ (fun hHeld => ?_)
   ·
    exact rq2
   refine tkI 0 ?_
   refine tkI 1 ?_
   refine tkI 2 ?_
   refine tkI 3 ?_
   refine tkI 4 ?_
   refine tkI 5 ?_
   refine tkI 6 ?_
   refine tkI 7 ?_
   refine tkI 8 ?_
   refine tkI 9 ?_
   refine tkI 10 ?_
   refine tkI 11 ?_
   refine tkI 12 ?_
   refine tkI 13 ?_
   refine tkI 14 ?_
   refine tkI 15 ?_
   refine tkI 16 ?_
   refine tkI 17 ?_
   refine tkI 18 ?_
   refine tkI 19 ?_
   refine tkI 20 ?_
   refine wpAnyH_ready (rs := [21]) (by kernel_rfl) (by simp) ?_
   refine AllReadyH.cons (o := _) rfl (fun K hK => ?_) AllReadyH.nil
   go_simp
   clear hHeld
   (go_at_call 57; refine (isPlace_any ⟨x22_0, x22_1, x22_2, x22_3, x22_4, x22_5⟩ ⟨x23_0, x23_1, x23_2, x23_3, x23_4, x23_5⟩ _ HW.out).mono ?_; rintro e w9 ⟨rfl, hb9⟩; rw [HGP.out]; (have hz9 := hb9.sz; obtain ⟨hk9_0, hf9_0, hl9_0, hn9_0⟩ := hb9.lay (w.heap.size + 1); obtain ⟨hk9_1, hf9_1, hl9_1, hn9_1⟩ := hb9.lay (b22)))
   refine hK.out _ _ ?_ (fun hHeld => ?_)
   ·
    exact rq2
   clear hK K
   (try simp only [Act.put, List.setIfInBounds_toArray, List.set_cons_zero, List.set_cons_succ, List.getElem_toArray, List.getElem_cons_zero, List.getElem_cons_succ])
   refine tkI 22 ?_
   refine tkI 23 ?_
   refine tkI 24 ?_
   refine tkI 25 ?_
   refine tkI 26 ?_
   refine tkI 27 ?_
   refine tkI 28 ?_
   refine tkI 29 ?_
   refine tkI 30 ?_
   refine tkI 31 ?_
   refine wpAnyH_done (by kernel_rfl) ?_ _
   by_cases h8 : op = 8
   ·
    subst h8
    by_cases hl : l.length = 3
    ·
     have RR := hide (RU.out.trans (show undoB 8 l = (x24_1 == 2) by unfold undoB; rw [decide_eq_true HL.out, HP.out, decide_eq_true HKN.out]; simp only [Bool.true_and]; rw [if_pos (by decide), decide_eq_true hl, HV2.out]; rfl))
     have fl : ((l.length : Int) == 3) = true := by rw [beq_iff_eq]; omega
     clear hl
     go_wp2_with (fail)
     repeat (any_goals (go_quiet (fail); (try go_wp2_with (fail))))
     all_goals
      go_returns
      exact ⟨by rw [RR.out]; first | done | rfl, bl⟩
    ·
     have RR := hide (RU.out.trans (show undoB 8 l = false by unfold undoB; rw [decide_eq_true HL.out, HP.out, decide_eq_true HKN.out]; simp only [Bool.true_and]; rw [if_pos (by decide), decide_eq_false hl]; rfl))
     have fl : ((l.length : Int) == 3) = false := by rw [beq_eq_false_iff_ne]; omega
     clear hl
     go_wp2_with (fail)
     repeat (any_goals (go_quiet (fail); (try go_wp2_with (fail))))
     all_goals
      go_returns
      exact ⟨by rw [RR.out]; first | done | rfl, bl⟩
   by_cases h325 : op = 325
   ·
    subst h325
    by_cases hl : l.length = 3
    ·
     have RR := hide (RU.out.trans (show undoB 325 l = (x24_1 == 2) by unfold undoB; rw [decide_eq_true HL.out, HP.out, decide_eq_true HKN.out]; simp only [Bool.true_and]; rw [if_pos (by decide), decide_eq_true hl, HV2.out]; rfl))
     have fl : ((l.length : Int) == 3) = true := by rw [beq_iff_eq]; omega
     clear hl
     go_wp2_with (fail)
     repeat (any_goals (go_quiet (fail); (try go_wp2_with (fail))))
     all_goals
      go_returns
      exact ⟨by rw [RR.out]; first | done | rfl, bl⟩
    ·
     have RR := hide (RU.out.trans (show undoB 325 l = false by unfold undoB; rw [decide_eq_true HL.out, HP.out, decide_eq_true HKN.out]; simp only [Bool.true_and]; rw [if_pos (by decide), decide_eq_false hl]; rfl))
     have fl : ((l.length : Int) == 3) = false := by rw [beq_eq_false_iff_ne]; omega
     clear hl
     go_wp2_with (fail)
     repeat (any_goals (go_quiet (fail); (try go_wp2_with (fail))))
     all_goals
      go_returns
      exact ⟨by rw [RR.out]; first | done | rfl, bl⟩
   by_cases h326 : op = 326
   ·
    subst h326
    by_cases hl : l.length = 3
    ·
     have RR := hide (RU.out.trans (show undoB 326 l = (x24_1 == 2) by unfold undoB; rw [decide_eq_true HL.out, HP.out, decide_eq_true HKN.out]; simp only [Bool.true_and]; rw [if_pos (by decide), decide_eq_true hl, HV2.out]; rfl))
     have fl : ((l.length : Int) == 3) = true := by rw [beq_iff_eq]; omega
     clear hl
     go_wp2_with (fail)
     repeat (any_goals (go_quiet (fail); (try go_wp2_with (fail))))
     all_goals
      go_returns
      exact ⟨by rw [RR.out]; first | done | rfl, bl⟩
    ·
     have RR := hide (RU.out.trans (show undoB 326 l = false by unfold undoB; rw [decide_eq_true HL.out, HP.out, decide_eq_true HKN.out]; simp only [Bool.true_and]; rw [if_pos (by decide), decide_eq_false hl]; rfl))
     have fl : ((l.length : Int) == 3) = false := by rw [beq_eq_false_iff_ne]; omega
     clear hl
     go_wp2_with (fail)
     repeat (any_goals (go_quiet (fail); (try go_wp2_with (fail))))
     all_goals
      go_returns
      exact ⟨by rw [RR.out]; first | done | rfl, bl⟩
   have f8 : (op == 8) = false := by rw [beq_eq_false_iff_ne]; exact h8
   have f325 : (op == 325) = false := by rw [beq_eq_false_iff_ne]; exact h325
   have f326 : (op == 326) = false := by rw [beq_eq_false_iff_ne]; exact h326
   by_cases h61 : op = 61
   ·
    subst h61
    by_cases hl : l.length = 5
    case neg =>
     have RR := hide (RU.out.trans (show undoB 61 l = false by unfold undoB; rw [decide_eq_true HL.out, HP.out, decide_eq_true HKN.out]; simp only [Bool.true_and]; rw [if_neg (by decide), if_pos (by decide), decide_eq_false hl]; rfl))
     have fl : ((l.length : Int) == 5) = false := by rw [beq_eq_false_iff_ne]; omega
     clear hl
     go_wp2_with (fail)
     repeat (any_goals (go_quiet (fail); (try go_wp2_with (fail))))
     all_goals
      go_returns
      exact ⟨by rw [RR.out]; first | done | rfl, bl⟩
    have R1 := hide (RU.out.trans (show undoB 61 l = (decide ((vAt l 2).n = 0 ∨ (vAt l 2).n = 1) && pairsB (l.drop 3)) by unfold undoB; rw [decide_eq_true HL.out, HP.out, decide_eq_true HKN.out]; simp only [Bool.true_and]; rw [if_neg (by decide), if_pos (by decide), decide_eq_true hl, Bool.true_and]))
    have fl : ((l.length : Int) == 5) = true := by rw [beq_iff_eq]; omega
    have HL5 := hide hl
    have hsl := fun w => slice_from3V (b := b22) (o := o22) (len := l.length) (c := c) (by omega) (by omega) w
    have hsl' := fun w => slice_from3V' (b := b22) (o := o22) (len := l.length) (c := c) (by omega) (by omega) w
    have i3 : 3 ≤ l.length := by omega
    have j3 : (3 : Int) ≤ (l.length : Int) := by omega
    have d3 : decide ((3 : Int) ≤ (l.length : Int)) = true := by simp; omega
    clear hl
    by_cases hm0 : x24_1 = 0
    case pos =>
     exact rq14
    by_cases hm1 : x24_1 = 1
    case pos =>
     exact rq12
    have RR := hide (R1.out.trans (show (decide ((vAt l 2).n = 0 ∨ (vAt l 2).n = 1) && pairsB (l.drop 3)) = false by rw [HV2.out, decide_eq_false (show ¬ (x24_1 = 0 ∨ x24_1 = 1) by omega)]; rfl))
    have fm0 : (x24_1 == 0) = false := by rw [beq_eq_false_iff_ne]; exact hm0
    have fm1 : (x24_1 == 1) = false := by rw [beq_eq_false_iff_ne]; exact hm1
    clear hm0 hm1
    go_wp2_with (fail)
    repeat (any_goals (go_quiet (fail); (try go_wp2_with (fail))))
    all_goals
     go_returns
     exact ⟨by rw [RR.out]; first | done | rfl, bl⟩
   by_cases h63 : op = 63
   ·
    subst h63
    by_cases hl : l.length = 7
    case neg =>
     have RR := hide (RU.out.trans (show undoB 63 l = false by unfold undoB; rw [decide_eq_true HL.out, HP.out, decide_eq_true HKN.out]; simp only [Bool.true_and]; rw [if_neg (by decide), if_neg (by decide), if_pos (by decide), decide_eq_false hl]; rfl))
     have fl : ((l.length : Int) == 7) = false := by rw [beq_eq_false_iff_ne]; omega
     clear hl
     go_wp2_with (fail)
     repeat (any_goals (go_quiet (fail); (try go_wp2_with (fail))))
     all_goals
      go_returns
      exact ⟨by rw [RR.out]; first | done | rfl, bl⟩
    have R1 := hide (RU.out.trans (show undoB 63 l = (decide ((vAt l 2).n = 0 ∨ (vAt l 2).n = 1) && pairsB (l.drop 3)) by unfold undoB; rw [decide_eq_true HL.out, HP.out, decide_eq_true HKN.out]; simp only [Bool.true_and]; rw [if_neg (by decide), if_neg (by decide), if_pos (by decide), decide_eq_true hl, Bool.true_and]))
    have fl : ((l.length : Int) == 7) = true := by rw [beq_iff_eq]; omega
    have HL5 := hide hl
    have hsl := fun w => slice_from3V (b := b22) (o := o22) (len := l.length) (c := c) (by omega) (by omega) w
    have hsl' := fun w => slice_from3V' (b := b22) (o := o22) (len := l.length) (c := c) (by omega) (by omega) w
    have i3 : 3 ≤ l.length := by omega
    have j3 : (3 : Int) ≤ (l.length : Int) := by omega
    have d3 : decide ((3 : Int) ≤ (l.length : Int)) = true := by simp; omega
    clear hl
    by_cases hm0 : x24_1 = 0
    case pos =>
     exact rq14
    by_cases hm1 : x24_1 = 1
    case pos =>
     exact rq12
    have RR := hide (R1.out.trans (show (decide ((vAt l 2).n = 0 ∨ (vAt l 2).n = 1) && pairsB (l.drop 3)) = false by rw [HV2.out, decide_eq_false (show ¬ (x24_1 = 0 ∨ x24_1 = 1) by omega)]; rfl))
    have fm0 : (x24_1 == 0) = false := by rw [beq_eq_false_iff_ne]; exact hm0
    have fm1 : (x24_1 == 1) = false := by rw [beq_eq_false_iff_ne]; exact hm1
    clear hm0 hm1
    go_wp2_with (fail)
    repeat (any_goals (go_quiet (fail); (try go_wp2_with (fail))))
    all_goals
     go_returns
     exact ⟨by rw [RR.out]; first | done | rfl, bl⟩
   have RR := hide (RU.out.trans (show undoB op l = false by unfold undoB; rw [decide_eq_true HL.out, HP.out, decide_eq_true HKN.out]; simp only [Bool.true_and]; rw [if_neg (by omega), if_neg (by omega), if_neg (by omega)]))
   have f61 : (op == 61) = false := by rw [beq_eq_false_iff_ne]; exact h61
   have f63 : (op == 63) = false := by rw [beq_eq_false_iff_ne]; exact h63
   clear h8 h325 h326 h61 h63
   go_wp2_with (fail)
   repeat (any_goals (go_quiet (fail); (try go_wp2_with (fail))))
   all_goals
    go_returns
    exact ⟨by rw [RR.out]; first | done | rfl, bl⟩
end Go.Proofs.YtebbpcgiacckfaaDoor
