/- Part of the proof: is a generator valid. -/
import Derived.Test.YtebbpcgiacckfaaDoorNHGenerator
import Derived.Deep.RegionHeld3
import Derived.Test.YtebbpcgiacckfaaDoorNG1
import Derived.Test.YtebbpcgiacckfaaDoorNG2a
namespace Go.Proofs.YtebbpcgiacckfaaDoor
set_option linter.unusedVariables false
set_option linter.unusedSimpArgs false
set_option maxRecDepth 100000
open Go.RowKit
--%quiet
set_option maxHeartbeats 4000000 in
theorem specGen_y (s : TStore) (op : Int) (l : List TValue) (hn : 3 ≤ l.length) (ho : l.length % 2 = 1) (hpl : placeB (vAt l 0) (vAt l 1) = true) (hk2 : (vAt l 2).k = 1) (hall : inAllB s l = true) : GenC 56 s 2 op 0 l := by
 intro S S' q w A c hs hR
 have HS := hide hs
 have hq := hs.1
 have hqn : ¬ q = w.heap.size := by omega
 have HR := hide hR
 have hlen := hR.1
 have hcm := hR.2.1
 simp only [List.length_map, List.length_cons, List.length_nil, Nat.reduceAdd] at hlen
 unfold maxLen at hcm
 clear hR hs
 have HALL := hide hall
 have fn1 : decide ((l.length : Int) < 3) = false := by simp; omega
 have fn2 : decide (l.length < 3) = false := by simp; omega
 have HE1 := hide (show Int.tmod (l.length : Int) 2 = 1 by rw [Int.tmod_eq_emod_of_nonneg (by omega)]; omega)
 have fe1 := HE1.out
 have fe2 : (l.length : Int) % 2 = 1 := by omega
 have HL := hide hn
 have d0 : decide ((0 : Int) < (l.length : Int)) = true := by simp; omega
 have d1 : decide ((1 : Int) < (l.length : Int)) = true := by simp; omega
 have d2 : decide ((2 : Int) < (l.length : Int)) = true := by simp; omega
 have d0n : decide (0 < l.length) = true := by simp; omega
 have d1n : decide (1 < l.length) = true := by simp; omega
 have d2n : decide (2 < l.length) = true := by simp; omega
 have i0 : 0 < l.length := by omega
 have i1 : 1 < l.length := by omega
 have i2 : 2 < l.length := by omega
 have j1 : (1 : Int) < (l.length : Int) := by omega
 have j2 : (2 : Int) < (l.length : Int) := by omega
 have HPL0 := hide hpl
 have HK2 := hide hk2
 have HOD := hide ho
 clear hall hn ho hpl hk2
 go_enter Tryd.func56, Tryd.ntmps56
 go_wp2_with (fail)
 repeat (any_goals (go_quiet (fail); (try go_wp2_with (fail))))
 go_loopw [5] (fun v wr => ∃ m : Nat, v = .int .i64 m ∧ m ≤ l.length ∧ Bel (w.alloc (.cells #[.int .i64 2, .int .i64 op, .int .i64 0, .slice A l.length c] 59)) wr) (fun v _ => l.length - (intOf v).toNat)
 case atStart => exact ⟨0, rfl, by omega, Bel.refl _⟩
 case round =>
  obtain ⟨m, rfl, m1, hb0⟩ := hrel
  have hbw : Bel w wr := bl
  have hz0 := hb0.sz
  have p0 : wr.cell? ⟨w.heap.size, 0, none⟩ = some (.int .i64 2) := (hb0.box w.heap.size (by simp) 0).trans (by simp)
  have p1 : wr.cell? ⟨w.heap.size, 1, none⟩ = some (.int .i64 op) := (hb0.box w.heap.size (by simp) 1).trans (by simp)
  have p2 : wr.cell? ⟨w.heap.size, 2, none⟩ = some (.int .i64 0) := (hb0.box w.heap.size (by simp) 2).trans (by simp)
  have p3 : wr.cell? ⟨w.heap.size, 3, none⟩ = some (.slice A l.length c) := (hb0.box w.heap.size (by simp) 3).trans (by simp)
  have hl0 : w.heap.size < wr.heap.size := by omega
  have hqw : q < wr.heap.size := by omega
  by_cases h1 : m < l.length
  ·
   exact rq1
  ·
   have hd : decide ((m : Int) < (l.length : Int)) = false := by simp; omega
   (obtain ⟨b2, o2, x2_0, x2_1, x2_2, x2_3, x2_4, x2_5, hA2, hS2, hl2, hx2, hv2, g2_0, g2_1, g2_2, g2_3, g2_4, g2_5, c2_0, c2_1, c2_2, c2_3, c2_4, c2_5⟩ := TValue.at HR.out 0 (by have := HL.out; omega); subst hA2; have HV2 := hide (Dat.HoldVals.bel hbw hv2); have hh2 := hbw.box b2 hl2; have hw2 := Nat.lt_of_lt_of_le hl2 (Bel.size hbw); replace c2_0 := (hh2 _).trans c2_0; replace c2_1 := (hh2 _).trans c2_1; replace c2_2 := (hh2 _).trans c2_2; replace c2_3 := (hh2 _).trans c2_3; replace c2_4 := (hh2 _).trans c2_4; replace c2_5 := (hh2 _).trans c2_5; have HX2 := hide hx2; clear hh2 hv2 hx2 hS2; simp only [Nat.zero_mul, Nat.one_mul, Nat.add_zero, Nat.reduceMul, Nat.add_assoc, Nat.reduceAdd] at c2_0 c2_1 c2_2 c2_3 c2_4 c2_5)
   (obtain ⟨b3, o3, x3_0, x3_1, x3_2, x3_3, x3_4, x3_5, hA3, hS3, hl3, hx3, hv3, g3_0, g3_1, g3_2, g3_3, g3_4, g3_5, c3_0, c3_1, c3_2, c3_3, c3_4, c3_5⟩ := TValue.at HR.out 1 (by have := HL.out; omega); injection Option.some.inj hA3 with qb3 qo3 _; subst qb3 qo3; have HV3 := hide (Dat.HoldVals.bel hbw hv3); have hh3 := hbw.box b2 hl3; have hw3 := Nat.lt_of_lt_of_le hl3 (Bel.size hbw); replace c3_0 := (hh3 _).trans c3_0; replace c3_1 := (hh3 _).trans c3_1; replace c3_2 := (hh3 _).trans c3_2; replace c3_3 := (hh3 _).trans c3_3; replace c3_4 := (hh3 _).trans c3_4; replace c3_5 := (hh3 _).trans c3_5; have HX3 := hide hx3; clear hh3 hv3 hx3 hS3; simp only [Nat.zero_mul, Nat.one_mul, Nat.add_zero, Nat.reduceMul, Nat.add_assoc, Nat.reduceAdd] at c3_0 c3_1 c3_2 c3_3 c3_4 c3_5)
   (obtain ⟨b4, o4, x4_0, x4_1, x4_2, x4_3, x4_4, x4_5, hA4, hS4, hl4, hx4, hv4, g4_0, g4_1, g4_2, g4_3, g4_4, g4_5, c4_0, c4_1, c4_2, c4_3, c4_4, c4_5⟩ := TValue.at HR.out 2 (by have := HL.out; omega); injection Option.some.inj hA4 with qb4 qo4 _; subst qb4 qo4; have HV4 := hide (Dat.HoldVals.bel hbw hv4); have hh4 := hbw.box b2 hl4; have hw4 := Nat.lt_of_lt_of_le hl4 (Bel.size hbw); replace c4_0 := (hh4 _).trans c4_0; replace c4_1 := (hh4 _).trans c4_1; replace c4_2 := (hh4 _).trans c4_2; replace c4_3 := (hh4 _).trans c4_3; replace c4_4 := (hh4 _).trans c4_4; replace c4_5 := (hh4 _).trans c4_5; have HX4 := hide hx4; clear hh4 hv4 hx4 hS4; simp only [Nat.zero_mul, Nat.one_mul, Nat.add_zero, Nat.reduceMul, Nat.add_assoc, Nat.reduceAdd] at c4_0 c4_1 c4_2 c4_3 c4_4 c4_5)
   have hb2w : b2 < wr.heap.size := by omega
   have VA0 := hide (show vAt l 0 = ⟨x2_0, x2_1, x2_2, x2_3, x2_4, x2_5⟩ by rw [vAt_get (by have := HL.out; omega), HX2.out]; rfl)
   have VA1 := hide (show vAt l 1 = ⟨x3_0, x3_1, x3_2, x3_3, x3_4, x3_5⟩ by rw [vAt_get (by have := HL.out; omega), HX3.out]; rfl)
   have VA2 := hide (show vAt l 2 = ⟨x4_0, x4_1, x4_2, x4_3, x4_4, x4_5⟩ by rw [vAt_get (by have := HL.out; omega), HX4.out]; rfl)
   have hpp : x2_0 = 2 ∧ x3_0 = 1 ∧ 1 ≤ x3_1 ∧ x3_1 ≤ (x2_3.size : Int) + 1 := by have := HPL0.out; rw [VA0.out, VA1.out] at this; unfold placeB at this; simp at this; omega
   have f2 : (x2_0 != 2) = false := by rw [bne_eq_false_iff_eq]; exact hpp.1
   have f3 : (x3_0 != 1) = false := by rw [bne_eq_false_iff_eq]; exact hpp.2.1
   have f4 : (x4_0 != 1) = false := by rw [bne_eq_false_iff_eq]; have := HK2.out; rw [VA2.out] at this; exact this
   have HPL := hide (show (decide ((1 : Int) ≤ x3_1) && decide (x3_1 ≤ (x2_3.size : Int) + 1)) = true by have := hpp.2.2; simp; omega)
   have hts := g2_3
   unfold maxLen at hts
   have sm : IntKind.i64.wrap ((x2_3.size : Int) + 1) = (x2_3.size : Int) + 1 := by have h9 := well_t2 (inB_well (inAll_at HALL.out (i := 0) (by have := HL.out; omega))) (by rw [HX2.out]; exact hpp.1); rw [HX2.out] at h9; replace h9 : x2_3.size ≤ 120 := h9; rw [IntKind.wrap_i64] <;> omega
   clear hpp
   go_wp2_with (fail)
   repeat (any_goals (go_quiet (fail); (try go_wp2_with (fail))))
   refine wp_region_held_drew (S := fun w' => w'.cell? ⟨w.heap.size, 0, none⟩ = some (.int .i64 2) ∧ w'.cell? ⟨w.heap.size, 1, none⟩ = some (.int .i64 op) ∧ w'.cell? ⟨w.heap.size, 2, none⟩ = some (.int .i64 0) ∧ w'.cell? ⟨w.heap.size, 3, none⟩ = some (.slice (some ⟨b2, o2, none⟩) l.length c) ∧ w'.cell? ⟨b2, o2, none⟩ = some (.int .i64 x2_0) ∧ w'.cell? ⟨b2, o2 + 3, none⟩ = some (.string x2_3) ∧ w'.cell? ⟨b2, o2 + 6, none⟩ = some (.int .i64 x3_0) ∧ w'.cell? ⟨b2, o2 + 7, none⟩ = some (.int .i64 x3_1) ∧ w'.cell? ⟨b2, o2 + 12, none⟩ = some (.int .i64 x4_0) ∧ w'.cell? ⟨b2, o2 + 13, none⟩ = some (.int .i64 x4_1)) (by kernel_rfl) ?_ (fun hHeld => ?_)
   ·
    exact rq7
   refine tkI 0 ?_
   refine tkI 1 ?_
   refine tkI 2 ?_
   refine tkI 3 ?_
   refine tkI 4 ?_
   refine tkI 5 ?_
   refine tkI 6 ?_
   refine tkI 7 ?_
   refine tkI 8 ?_
   refine tkI 9 ?_
   refine tkI 10 ?_
   refine tkI 11 ?_
   refine tkI 12 ?_
   refine tkI 13 ?_
   refine tkI 14 ?_
   refine tkI 15 ?_
   refine tkI 16 ?_
   refine tkI 17 ?_
   refine tkI 18 ?_
   refine tkI 19 ?_
   refine tkI 20 ?_
   refine tkI 21 ?_
   refine tkI 22 ?_
   refine tkI 23 ?_
   refine tkI 24 ?_
   refine tkI 25 ?_
   refine tkI 26 ?_
   refine tkI 27 ?_
   refine tkI 28 ?_
   refine tkI 29 ?_
   refine tkI 30 ?_
   refine tkI 31 ?_
   refine tkI 32 ?_
   refine tkI 33 ?_
   refine tkI 34 ?_
   refine tkI 35 ?_
   refine tkI 36 ?_
   refine tkI 37 ?_
   refine tkI 38 ?_
   refine tkI 39 ?_
   refine tkI 40 ?_
   refine tkI 41 ?_
   refine tkI 42 ?_
   refine tkI 43 ?_
   refine tkI 44 ?_
   refine tkI 45 ?_
   refine tkI 46 ?_
   refine tkI 47 ?_
   refine tkI 48 ?_
   refine tkI 49 ?_
   refine tkI 50 ?_
   refine tkI 51 ?_
   refine tkI 52 ?_
   refine tkI 53 ?_
   refine wpAnyH_ready (rs := [54]) (by kernel_rfl) (by simp) ?_
   refine AllReadyH.cons (o := _) rfl (fun K hK => ?_) AllReadyH.nil
   go_simp
   clear hHeld
   (go_at_call 29; refine (l1InS_any _ _ _ _).mono ?_; rintro e w8 ⟨rfl, rfl⟩; rw [HPL.out])
   refine hK.out _ _ ?_ (fun hHeld => ?_)
   ·
    exact rq7
   clear hK K
   (try simp only [Act.put, List.setIfInBounds_toArray, List.set_cons_zero, List.set_cons_succ, List.getElem_toArray, List.getElem_cons_zero, List.getElem_cons_succ])
   refine tkI 55 ?_
   refine tkI 56 ?_
   refine wpAnyH_done (by kernel_rfl) ?_ _
   all_goals (try (go_wp2_with (fail)))
   obtain ⟨wz, rfl⟩ : ∃ x : World, x = wr := ⟨_, rfl⟩
   go_loopw [7] (fun v wq => ∃ i : Nat, v = .int .i64 i ∧ i ≤ l.length ∧ Hid (∃ j, i = 3 + 2 * j ∧ ∀ t, t < j → isRef (vAt l (3 + 2 * t)).k = true ∧ (vAt l (3 + 2 * t + 1)).k ≤ 12) ∧ Bel wz wq) (fun v _ => l.length - (intOf v).toNat)
   case atStart => exact ⟨3, rfl, by have := HL.out; omega, ⟨0, rfl, fun t ht => by omega⟩, bl⟩
   case round =>
    obtain ⟨i, rfl, hi, hm, hb2⟩ := hrel
    have hbw2 : Bel w wr := hbw.trans hb2
    have r0 := (hb2.box w.heap.size hl0 0).trans p0
    have r1 := (hb2.box w.heap.size hl0 1).trans p1
    have r2 := (hb2.box w.heap.size hl0 2).trans p2
    have r3 := (hb2.box w.heap.size hl0 3).trans p3
    have hl2 : w.heap.size < wr.heap.size := Nat.lt_of_lt_of_le hl0 hb2.size
    have hqw2 : q < wr.heap.size := Nat.lt_of_lt_of_le hqw hb2.size
    by_cases h2 : i < l.length
    ·
     have h3 : i + 1 < l.length := by obtain ⟨j, hj, -⟩ := hm.out; have := HOD.out; omega
     have e1 : decide ((i : Int) < (l.length : Int)) = true := by simp; omega
     have e2 : decide ((i : Int) + 1 < (l.length : Int)) = true := by simp; omega
     have sw1 : IntKind.i64.wrap ((i : Int) + 1) = (i : Int) + 1 := by rw [IntKind.wrap_i64] <;> omega
     have sw2 : IntKind.i64.wrap ((i : Int) + 2) = (i : Int) + 2 := by rw [IntKind.wrap_i64] <;> omega
     (obtain ⟨b5, o5, x5_0, x5_1, x5_2, x5_3, x5_4, x5_5, hA5, hS5, hl5, hx5, hv5, g5_0, g5_1, g5_2, g5_3, g5_4, g5_5, c5_0, c5_1, c5_2, c5_3, c5_4, c5_5⟩ := TValue.at HR.out i h2; injection Option.some.inj hA5 with qb5 qo5 _; subst qb5 qo5; have HV5 := hide (Dat.HoldVals.bel hbw2 hv5); have hh5 := hbw2.box b2 hl5; have hw5 := Nat.lt_of_lt_of_le hl5 (Bel.size hbw2); replace c5_0 := (hh5 _).trans c5_0; replace c5_1 := (hh5 _).trans c5_1; replace c5_2 := (hh5 _).trans c5_2; replace c5_3 := (hh5 _).trans c5_3; replace c5_4 := (hh5 _).trans c5_4; replace c5_5 := (hh5 _).trans c5_5; have HX5 := hide hx5; clear hh5 hv5 hx5 hS5)
     (obtain ⟨b6, o6, x6_0, x6_1, x6_2, x6_3, x6_4, x6_5, hA6, hS6, hl6, hx6, hv6, g6_0, g6_1, g6_2, g6_3, g6_4, g6_5, c6_0, c6_1, c6_2, c6_3, c6_4, c6_5⟩ := TValue.at HR.out (i + 1) h3; injection Option.some.inj hA6 with qb6 qo6 _; subst qb6 qo6; have HV6 := hide (Dat.HoldVals.bel hbw2 hv6); have hh6 := hbw2.box b2 hl6; have hw6 := Nat.lt_of_lt_of_le hl6 (Bel.size hbw2); replace c6_0 := (hh6 _).trans c6_0; replace c6_1 := (hh6 _).trans c6_1; replace c6_2 := (hh6 _).trans c6_2; replace c6_3 := (hh6 _).trans c6_3; replace c6_4 := (hh6 _).trans c6_4; replace c6_5 := (hh6 _).trans c6_5; have HX6 := hide hx6; clear hh6 hv6 hx6 hS6)
     have HW5 := hide (show vAt l i = ⟨x5_0, x5_1, x5_2, x5_3, x5_4, x5_5⟩ by rw [vAt_get h2, HX5.out]; rfl)
     have HW6 := hide (show vAt l (i + 1) = ⟨x6_0, x6_1, x6_2, x6_3, x6_4, x6_5⟩ by rw [vAt_get h3, HX6.out]; rfl)
     have hb2w2 : b2 < wr.heap.size := Nat.lt_of_lt_of_le hb2w hb2.size
     cases hrf : isRef x5_0
     ·
      have HRF := hide hrf
      have hbad : ¬ (isRef (VVal.k ⟨x5_0, x5_1, x5_2, x5_3, x5_4, x5_5⟩) = true ∧ (VVal.k ⟨x6_0, x6_1, x6_2, x6_3, x6_4, x6_5⟩) ≤ 12) := fun h => by rw [show isRef (VVal.k ⟨x5_0, x5_1, x5_2, x5_3, x5_4, x5_5⟩) = false from hrf] at h; cases h.1
      have RR := hide (gen_2n (s := s) (kd := 2) (op := op) (ct := 0) (l := l) (by decide) fun h => by obtain ⟨j, hj, -⟩ := hm.out; have := pairs_bad (l := l) (j := j) (by omega) (by rw [← hj, HW5.out, HW6.out]; exact hbad); rw [undo_pairs h.2.2] at this; cases this)
      clear hrf hbad
      have mkq := True.intro
      repeat (any_goals ((first | clear mkq | go_quiet (fail)); (try go_wp2_with (go_at_call 88; refine (specIsReference_any ⟨x5_0, x5_1, x5_2, x5_3, x5_4, x5_5⟩ _).mono ?_; rintro e w5 ⟨rfl, hb5⟩; rw [HRF.out]; (have hz5 := hb5.sz; obtain ⟨hk5_0, hf5_0, hl5_0, hn5_0⟩ := hb5.lay (w.heap.size); obtain ⟨hk5_1, hf5_1, hl5_1, hn5_1⟩ := hb5.lay (b2))))))
      all_goals
       go_returns
       exact ⟨by rw [RR.out]; first | done | rfl, bl⟩
     ·
      have HRF := hide hrf
      clear hrf
      by_cases h12 : x6_0 ≤ 12
      ·
       have f12 : decide (12 < x6_0) = false := by simp; omega
       have H12 := hide h12
       clear h12
       have mkq := True.intro
       repeat (any_goals ((first | clear mkq | go_quiet (fail)); (try go_wp2_with (go_at_call 88; refine (specIsReference_any ⟨x5_0, x5_1, x5_2, x5_3, x5_4, x5_5⟩ _).mono ?_; rintro e w5 ⟨rfl, hb5⟩; rw [HRF.out]; (have hz5 := hb5.sz; obtain ⟨hk5_0, hf5_0, hl5_0, hn5_0⟩ := hb5.lay (w.heap.size); obtain ⟨hk5_1, hf5_1, hl5_1, hn5_1⟩ := hb5.lay (b2))))))
       go_roundw
       case rel => exact ⟨i + 2, by go_num, by omega, by
        obtain ⟨j, hj, hg⟩ := hm.out
        refine ⟨j + 1, by omega, fun t ht => ?_⟩
        by_cases e : t = j
        ·
         subst e; rw [← hj, HW5.out, HW6.out]; exact ⟨HRF.out, H12.out⟩
        ·
         exact hg t (by omega), bl⟩
       case measure => simp [intOf]; omega
      ·
       have f12 : decide (12 < x6_0) = true := by simp; omega
       have hbad : ¬ (isRef (VVal.k ⟨x5_0, x5_1, x5_2, x5_3, x5_4, x5_5⟩) = true ∧ (VVal.k ⟨x6_0, x6_1, x6_2, x6_3, x6_4, x6_5⟩) ≤ 12) := fun h => h12 h.2
       have RR := hide (gen_2n (s := s) (kd := 2) (op := op) (ct := 0) (l := l) (by decide) fun h => by obtain ⟨j, hj, -⟩ := hm.out; have := pairs_bad (l := l) (j := j) (by omega) (by rw [← hj, HW5.out, HW6.out]; exact hbad); rw [undo_pairs h.2.2] at this; cases this)
       clear h12 hbad
       have mkq := True.intro
       repeat (any_goals ((first | clear mkq | go_quiet (fail)); (try go_wp2_with (go_at_call 88; refine (specIsReference_any ⟨x5_0, x5_1, x5_2, x5_3, x5_4, x5_5⟩ _).mono ?_; rintro e w5 ⟨rfl, hb5⟩; rw [HRF.out]; (have hz5 := hb5.sz; obtain ⟨hk5_0, hf5_0, hl5_0, hn5_0⟩ := hb5.lay (w.heap.size); obtain ⟨hk5_1, hf5_1, hl5_1, hn5_1⟩ := hb5.lay (b2))))))
       all_goals
        go_returns
        exact ⟨by rw [RR.out]; first | done | rfl, bl⟩
    ·
     have e1 : decide ((i : Int) < (l.length : Int)) = false := by simp; omega
     have R0 := hide ((gen_2y (op := op) HALL.out).trans (undo_val HL.out HPL0.out HK2.out (pairs_good fun t ht => by obtain ⟨j, hj, hg⟩ := hm.out; exact hg t (by omega))))
     rw [VA2.out] at R0
     have z0 := (hb2.box b2 hb2w (o2 + 13)).trans c4_1
     have hb2w2 : b2 < wr.heap.size := Nat.lt_of_lt_of_le hb2w hb2.size
     clear hm hi
     by_cases h61 : op = 61
     ·
      subst h61
      by_cases hn5 : l.length = 5
      ·
       have fl : ((l.length : Int) == 5) = true := by rw [beq_iff_eq]; omega
       by_cases h01 : x4_1 = 0 ∨ x4_1 = 1
       ·
        have RR := hide (show genB s 2 61 0 l = true by rw [R0.out, if_neg (by decide), if_pos rfl, decide_eq_true hn5, decide_eq_true (show _ from h01)]; rfl)
        have HIN := hide (show (decide ((0 : Int) ≤ x4_1) && decide (x4_1 ≤ 1)) = true by simp; omega)
        clear hn5 h01
        have mkq := True.intro
        repeat (any_goals ((first | clear mkq | go_quiet (fail)); (try go_wp2_with (go_at_call 29; refine (l1InS_any _ _ _ _).mono ?_; rintro e w8 ⟨rfl, rfl⟩; rw [HIN.out]))))
        all_goals
         go_returns
         exact ⟨by rw [RR.out]; first | done | rfl, bl⟩
       ·
        have RR := hide (show genB s 2 61 0 l = false by rw [R0.out, if_neg (by decide), if_pos rfl, decide_eq_true hn5, decide_eq_false (show ¬ _ from h01)]; rfl)
        have HIN := hide (show (decide ((0 : Int) ≤ x4_1) && decide (x4_1 ≤ 1)) = false by simp; omega)
        clear hn5 h01
        have mkq := True.intro
        repeat (any_goals ((first | clear mkq | go_quiet (fail)); (try go_wp2_with (go_at_call 29; refine (l1InS_any _ _ _ _).mono ?_; rintro e w8 ⟨rfl, rfl⟩; rw [HIN.out]))))
        all_goals
         go_returns
         exact ⟨by rw [RR.out]; first | done | rfl, bl⟩
      ·
       have fl : ((l.length : Int) == 5) = false := by rw [beq_eq_false_iff_ne]; omega
       have RR := hide (show genB s 2 61 0 l = false by rw [R0.out, if_neg (by decide), if_pos rfl, decide_eq_false hn5]; rfl)
       clear hn5
       go_wp2_with (fail)
       repeat (any_goals (go_quiet (fail); (try go_wp2_with (fail))))
       all_goals
        go_returns
        exact ⟨by rw [RR.out]; first | done | rfl, bl⟩
     by_cases h63 : op = 63
     ·
      subst h63
      by_cases hn5 : l.length = 7
      ·
       have fl : ((l.length : Int) == 7) = true := by rw [beq_iff_eq]; omega
       by_cases h01 : x4_1 = 0 ∨ x4_1 = 1
       ·
        have RR := hide (show genB s 2 63 0 l = true by rw [R0.out, if_neg (by decide), if_neg (by decide), if_pos rfl, decide_eq_true hn5, decide_eq_true (show _ from h01)]; rfl)
        have HIN := hide (show (decide ((0 : Int) ≤ x4_1) && decide (x4_1 ≤ 1)) = true by simp; omega)
        clear hn5 h01
        have mkq := True.intro
        repeat (any_goals ((first | clear mkq | go_quiet (fail)); (try go_wp2_with (go_at_call 29; refine (l1InS_any _ _ _ _).mono ?_; rintro e w8 ⟨rfl, rfl⟩; rw [HIN.out]))))
        all_goals
         go_returns
         exact ⟨by rw [RR.out]; first | done | rfl, bl⟩
       ·
        have RR := hide (show genB s 2 63 0 l = false by rw [R0.out, if_neg (by decide), if_neg (by decide), if_pos rfl, decide_eq_true hn5, decide_eq_false (show ¬ _ from h01)]; rfl)
        have HIN := hide (show (decide ((0 : Int) ≤ x4_1) && decide (x4_1 ≤ 1)) = false by simp; omega)
        clear hn5 h01
        have mkq := True.intro
        repeat (any_goals ((first | clear mkq | go_quiet (fail)); (try go_wp2_with (go_at_call 29; refine (l1InS_any _ _ _ _).mono ?_; rintro e w8 ⟨rfl, rfl⟩; rw [HIN.out]))))
        all_goals
         go_returns
         exact ⟨by rw [RR.out]; first | done | rfl, bl⟩
      ·
       have fl : ((l.length : Int) == 7) = false := by rw [beq_eq_false_iff_ne]; omega
       have RR := hide (show genB s 2 63 0 l = false by rw [R0.out, if_neg (by decide), if_neg (by decide), if_pos rfl, decide_eq_false hn5]; rfl)
       clear hn5
       go_wp2_with (fail)
       repeat (any_goals (go_quiet (fail); (try go_wp2_with (fail))))
       all_goals
        go_returns
        exact ⟨by rw [RR.out]; first | done | rfl, bl⟩
     have f61 : (op == 61) = false := by rw [beq_eq_false_iff_ne]; omega
     have f63 : (op == 63) = false := by rw [beq_eq_false_iff_ne]; omega
     by_cases h8 : op = 8 ∨ op = 325 ∨ op = 326
     ·
      have R1 := hide (R0.out.trans (if_pos h8))
      by_cases hn3 : l.length = 3
      ·
       have fl : ((l.length : Int) == 3) = true := by rw [beq_iff_eq]; omega
       by_cases hz2 : x4_1 = 2
       ·
        have RR := hide (show genB s 2 op 0 l = true by rw [R1.out, decide_eq_true hn3, decide_eq_true (show _ from hz2)]; rfl)
        have fz : (x4_1 == 2) = true := by rw [beq_iff_eq]; exact hz2
        clear hn3 hz2
        rcases h8 with rfl | rfl | rfl
        all_goals (go_wp2_with (fail))
        all_goals
         go_returns
         exact ⟨by rw [RR.out]; first | done | rfl, bl⟩
       ·
        have RR := hide (show genB s 2 op 0 l = false by rw [R1.out, decide_eq_true hn3, decide_eq_false (show ¬ _ from hz2)]; rfl)
        have fz : (x4_1 == 2) = false := by rw [beq_eq_false_iff_ne]; exact hz2
        clear hn3 hz2
        rcases h8 with rfl | rfl | rfl
        all_goals (go_wp2_with (fail))
        all_goals
         go_returns
         exact ⟨by rw [RR.out]; first | done | rfl, bl⟩
      ·
       have fl : ((l.length : Int) == 3) = false := by rw [beq_eq_false_iff_ne]; omega
       have RR := hide (show genB s 2 op 0 l = false by rw [R1.out, decide_eq_false hn3]; rfl)
       clear hn3
       rcases h8 with rfl | rfl | rfl
       all_goals (go_wp2_with (fail))
       all_goals
        go_returns
        exact ⟨by rw [RR.out]; first | done | rfl, bl⟩
     ·
      have RR := hide (show genB s 2 op 0 l = false by rw [R0.out, if_neg h8, if_neg h61, if_neg h63])
      have f8 : (op == 8) = false := by rw [beq_eq_false_iff_ne]; omega
      have f325 : (op == 325) = false := by rw [beq_eq_false_iff_ne]; omega
      have f326 : (op == 326) = false := by rw [beq_eq_false_iff_ne]; omega
      clear h8 h61 h63
      go_wp2_with (fail)
      repeat (any_goals (go_quiet (fail); (try go_wp2_with (fail))))
      all_goals
       go_returns
       exact ⟨by rw [RR.out]; first | done | rfl, bl⟩
end Go.Proofs.YtebbpcgiacckfaaDoor
namespace Go.Proofs.YtebbpcgiacckfaaDoor
set_option linter.unusedVariables false
set_option linter.unusedSimpArgs false
set_option maxRecDepth 100000
open Go.RowKit
theorem specGen_1 (s : TStore) (op ct : Int) (l : List TValue) (hall : inAllB s l = true) : GenC 56 s 1 op ct l := by
 by_cases hc : 1 ≤ ct ∧ ct ≤ 5000
 case neg => exact specGen_ct s op ct l hall hc
 by_cases h7 : op = 7
 ·
  subst h7
  by_cases hl : l.length = 1
  ·
   obtain ⟨a, rfl⟩ : ∃ a, l = [a] := List.length_eq_one_iff.1 hl
   exact specGen_7y s ct a hall hc
  ·
   exact specGen_7n s ct l hall hc hl
 by_cases h72 : op = 72
 ·
  subst h72
  cases hk : kindsB l [1, 1, 1]
  ·
   exact specGen_72n s ct l hall hc hk
  ·
   obtain ⟨a, b, c0, rfl⟩ := kinds_3 hk
   exact specGen_72y s ct a b c0 hall hc hk
 by_cases h338 : op = 338
 ·
  subst h338
  cases hk : kindsB l [1, 1, 1]
  ·
   exact specGen_338n s ct l hall hc hk
  ·
   obtain ⟨a, b, c0, rfl⟩ := kinds_3 hk
   exact specGen_338y s ct a b c0 hall hc hk
 by_cases h317 : op = 317
 ·
  subst h317
  cases hk : kindsB l [5]
  ·
   exact specGen_317n s ct l hall hc hk
  ·
   obtain ⟨a, rfl⟩ := kinds_1 hk
   exact specGen_317y s ct a hall hc hk
 by_cases h320 : op = 320
 ·
  subst h320
  cases hk : kindsB l [2, 2, 1]
  ·
   exact specGen_320n s ct l hall hc hk
  ·
   obtain ⟨a, b, c0, rfl⟩ := kinds_3 hk
   exact specGen_320y s ct a b c0 hall hc hk
 by_cases h321 : op = 321
 ·
  subst h321
  cases hk : kindsB l [3, 2, 1]
  ·
   exact specGen_321n s ct l hall hc hk
  ·
   obtain ⟨a, b, c0, rfl⟩ := kinds_3 hk
   exact specGen_321y s ct a b c0 hall hc hk
 exact specGen_out s op ct l hall hc ⟨h7, h72, h338, h317, h320, h321⟩
theorem specGen_any (s : TStore) (kd op ct : Int) (l : List TValue) : GenC 56 s kd op ct l := by
 cases hall : inAllB s l
 ·
  exact specGen_no s kd op ct l hall
 by_cases h1 : kd = 1
 ·
  subst h1; exact specGen_1 s op ct l hall
 by_cases h2 : kd = 2
 case neg => exact specGen_k s kd op ct l h1 h2 hall
 subst h2
 by_cases hc : ct = 0
 case neg => exact specGen_c s op ct l hc hall
 subst hc
 by_cases hn : 3 ≤ l.length
 case neg => exact specGen_n s op l (by omega) hall
 by_cases ho : l.length % 2 = 1
 case neg => exact specGen_e s op l hn (by omega) hall
 by_cases ha : (vAt l 0).k = 2
 case neg => exact specGen_a0 s op l hn ho ha hall
 by_cases hb : (vAt l 1).k = 1
 case neg => exact specGen_a1 s op l hn ho ⟨ha, hb⟩ hall
 by_cases hd : (vAt l 2).k = 1
 case neg => exact specGen_a2 s op l hn ho ⟨ha, hb, hd⟩ hall
 by_cases hp : 1 ≤ (vAt l 1).n ∧ (vAt l 1).n ≤ ((vAt l 0).t.size : Int) + 1
 case neg => exact specGen_a3 s op l hn ho ⟨ha, hb, hd, hp⟩ hall
 exact specGen_y s op l hn ho (by unfold placeB; rw [decide_eq_true ha, decide_eq_true hb, decide_eq_true hp]; rfl) hd hall
end Go.Proofs.YtebbpcgiacckfaaDoor
