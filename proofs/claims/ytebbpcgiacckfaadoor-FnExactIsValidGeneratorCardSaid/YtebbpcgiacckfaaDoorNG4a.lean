/- Part of the proof: is a generator valid. -/
import Derived.Test.YtebbpcgiacckfaaDoorNHGenerator
import Derived.Deep.RegionHeld3
namespace Go.Proofs.YtebbpcgiacckfaaDoor
set_option linter.unusedVariables false
set_option linter.unusedSimpArgs false
set_option maxRecDepth 100000
open Go.RowKit
--%quiet
set_option maxHeartbeats 8000000 in
theorem implGen_bad (s : TStore) (kd op ct : Int) (l : List TValue) (hval : validB s = false) : GenI s kd op ct l := by
 intro S S' w vs A c htab hv hR
 obtain ⟨x0, x1, x2, x3, x4, x5, x6, x7, x8, x9, x10, x11, x12⟩ := s
 have HV := hide hv
 obtain ⟨A0, c0, A1, c1, A2, c2, A3, c3, A6, c6, A7, c7, A8, c8, rfl, hlc0, hcm0, hlc1, hcm1, hlc2, hcm2, hlc3, hcm3, hlc6, hcm6, hlc7, hcm7, hlc8, hcm8, g4, g5, g10, g11, g12, HR0, HR1, HR2, HR3, HR6, HR7, HR8, HS1⟩ := TStore.opn 36 hv
 clear hv
 have HT := hide htab
 clear htab
 have HR := hide hR
 have hlen := hR.1
 have hcm := hR.2.1
 simp only [List.length_map] at hlen
 unfold maxLen at hcm
 clear hR
 have RR := hide (show (validB (TStore.mk x0 x1 x2 x3 x4 x5 x6 x7 x8 x9 x10 x11 x12) && genB (TStore.mk x0 x1 x2 x3 x4 x5 x6 x7 x8 x9 x10 x11 x12) kd op ct l) = false by rw [hval]; rfl)
 have HVL := hide hval
 clear hval
 go_enter Tryd.func22, Tryd.ntmps22
 have mkq := True.intro
 repeat (any_goals ((first | clear mkq | go_quiet (fail)); (try go_wp2_with (go_at_call 10; refine (implValid_any (TStore.mk x0 x1 x2 x3 x4 x5 x6 x7 x8 x9 x10 x11 x12) S _ _ (HT.out.on bl) (Dat.HoldVals.bel bl HV.out)).mono ?_; rintro e w1 ⟨rfl, hb1⟩; rw [HVL.out]; (have hz1 := hb1.sz; obtain ⟨hk1_0, hf1_0, hl1_0, hn1_0⟩ := hb1.lay (w.heap.size); obtain ⟨hk1_1, hf1_1, hl1_1, hn1_1⟩ := hb1.lay (w.heap.size + 1))))))
 all_goals
  go_returns
  exact ⟨by rw [RR.out]; first | done | rfl, bl⟩
set_option maxHeartbeats 8000000 in
theorem implGen_no (s : TStore) (kd op ct : Int) (l : List TValue) (hall : inAllB s l = false) (hval : validB s = true) : GenI s kd op ct l := by
 intro S S' w vs A c htab hv hR
 obtain ⟨x0, x1, x2, x3, x4, x5, x6, x7, x8, x9, x10, x11, x12⟩ := s
 have HV := hide hv
 obtain ⟨A0, c0, A1, c1, A2, c2, A3, c3, A6, c6, A7, c7, A8, c8, rfl, hlc0, hcm0, hlc1, hcm1, hlc2, hcm2, hlc3, hcm3, hlc6, hcm6, hlc7, hcm7, hlc8, hcm8, g4, g5, g10, g11, g12, HR0, HR1, HR2, HR3, HR6, HR7, HR8, HS1⟩ := TStore.opn 36 hv
 clear hv
 have HT := hide htab
 clear htab
 have HR := hide hR
 have hlen := hR.1
 have hcm := hR.2.1
 simp only [List.length_map] at hlen
 unfold maxLen at hcm
 clear hR
 have RR := hide (show (validB (TStore.mk x0 x1 x2 x3 x4 x5 x6 x7 x8 x9 x10 x11 x12) && genB (TStore.mk x0 x1 x2 x3 x4 x5 x6 x7 x8 x9 x10 x11 x12) kd op ct l) = false by rw [hval, Bool.true_and]; exact gen_in hall)
 have HALL := hide hall
 have HVL := hide hval
 clear hall hval
 go_enter Tryd.func22, Tryd.ntmps22
 have mkq := True.intro
 repeat (any_goals ((first | clear mkq | go_quiet (fail)); (try go_wp2_with (go_at_call 10; refine (implValid_any (TStore.mk x0 x1 x2 x3 x4 x5 x6 x7 x8 x9 x10 x11 x12) S _ _ (HT.out.on bl) (Dat.HoldVals.bel bl HV.out)).mono ?_; rintro e w1 ⟨rfl, hb1⟩; rw [HVL.out]; (have hz1 := hb1.sz; obtain ⟨hk1_0, hf1_0, hl1_0, hn1_0⟩ := hb1.lay (w.heap.size); obtain ⟨hk1_1, hf1_1, hl1_1, hn1_1⟩ := hb1.lay (w.heap.size + 1))))))
 have HSw := hide (show StoreAt w1 S w.heap.size (TStore.mk x0 x1 x2 x3 x4 x5 x6 x7 x8 x9 x10 x11 x12) from StoreAt.bel bl HS1.out)
 have hb1w : Bel w w1 := bl
 go_loopw [15] (fun v wr => ∃ m : Nat, v = .int .i64 m ∧ m ≤ l.length ∧ Hid (∀ j (hj : j < l.length), j < m → inB (TStore.mk x0 x1 x2 x3 x4 x5 x6 x7 x8 x9 x10 x11 x12) l[j].v = true) ∧ Bel w1 wr) (fun v _ => l.length - (intOf v).toNat)
 case atStart => exact ⟨0, rfl, by omega, fun j _ hj => by omega, Bel.refl _⟩
 case round =>
  obtain ⟨m, rfl, m1, hm, hb0⟩ := hrel
  have HSr := hide (StoreAt.bel hb0 HSw.out)
  have hbw : Bel w wr := hb1w.trans hb0
  have hz0 := hb0.size
  have p0 : wr.cell? ⟨w.heap.size + 1, 0, none⟩ = some (.int .i64 kd) := (hb0.box (w.heap.size + 1) hl1_1 0).trans (by rw [hk1_1]; simp)
  have p1 : wr.cell? ⟨w.heap.size + 1, 1, none⟩ = some (.int .i64 op) := (hb0.box (w.heap.size + 1) hl1_1 1).trans (by rw [hk1_1]; simp)
  have p2 : wr.cell? ⟨w.heap.size + 1, 2, none⟩ = some (.int .i64 ct) := (hb0.box (w.heap.size + 1) hl1_1 2).trans (by rw [hk1_1]; simp)
  have p3 : wr.cell? ⟨w.heap.size + 1, 3, none⟩ = some (.slice A l.length c) := (hb0.box (w.heap.size + 1) hl1_1 3).trans (by rw [hk1_1]; simp)
  have hl0 : w.heap.size < wr.heap.size := by omega
  have hl1 : w.heap.size + 1 < wr.heap.size := by omega
  have hn1 : ¬ w.heap.size + 1 = wr.heap.size := by omega
  by_cases h1 : m < l.length
  ·
   have hd : decide ((m : Int) < (l.length : Int)) = true := by simp; omega
   (obtain ⟨b21, o21, x21_0, x21_1, x21_2, x21_3, x21_4, x21_5, hA21, hS21, hl21, hx21, hv21, g21_0, g21_1, g21_2, g21_3, g21_4, g21_5, c21_0, c21_1, c21_2, c21_3, c21_4, c21_5⟩ := TValue.at HR.out m h1; subst hA21; have HV21 := hide (Dat.HoldVals.bel hbw hv21); have hh21 := hbw.box b21 hl21; have hw21 := Nat.lt_of_lt_of_le hl21 (Bel.size hbw); replace c21_0 := (hh21 _).trans c21_0; replace c21_1 := (hh21 _).trans c21_1; replace c21_2 := (hh21 _).trans c21_2; replace c21_3 := (hh21 _).trans c21_3; replace c21_4 := (hh21 _).trans c21_4; replace c21_5 := (hh21 _).trans c21_5; have HX21 := hide hx21; clear hh21 hv21 hx21 hS21)
   have hne1 : ¬ b21 = wr.heap.size := by omega
   have HD := hide (show inB (TStore.mk x0 x1 x2 x3 x4 x5 x6 x7 x8 x9 x10 x11 x12) l[m].v = inB (TStore.mk x0 x1 x2 x3 x4 x5 x6 x7 x8 x9 x10 x11 x12) ⟨x21_0, x21_1, x21_2, x21_3, x21_4, x21_5⟩ by rw [HX21.out]; rfl)
   cases hn : inB (TStore.mk x0 x1 x2 x3 x4 x5 x6 x7 x8 x9 x10 x11 x12) ⟨x21_0, x21_1, x21_2, x21_3, x21_4, x21_5⟩
   ·
    have HN := hide hn
    clear hn
    have mkq := True.intro
    repeat (any_goals ((first | clear mkq | go_quiet (fail)); (try go_wp2_with (go_at_call 52; refine (implIn_any (TStore.mk x0 x1 x2 x3 x4 x5 x6 x7 x8 x9 x10 x11 x12) ⟨x21_0, x21_1, x21_2, x21_3, x21_4, x21_5⟩ S w.heap.size _ (StoreAt.bel (show Bel wr _ from bl) HSr.out) ⟨g21_0, g21_1, g21_2, g21_3, g21_4, g21_5⟩).mono ?_; rintro e w2 ⟨rfl, hb2⟩; rw [HN.out]))))
    all_goals
     go_returns
     exact ⟨by rw [RR.out]; first | done | rfl, bl⟩
   ·
    have HN := hide hn
    clear hn
    have mkq := True.intro
    repeat (any_goals ((first | clear mkq | go_quiet (fail)); (try go_wp2_with (go_at_call 52; refine (implIn_any (TStore.mk x0 x1 x2 x3 x4 x5 x6 x7 x8 x9 x10 x11 x12) ⟨x21_0, x21_1, x21_2, x21_3, x21_4, x21_5⟩ S w.heap.size _ (StoreAt.bel (show Bel wr _ from bl) HSr.out) ⟨g21_0, g21_1, g21_2, g21_3, g21_4, g21_5⟩).mono ?_; rintro e w2 ⟨rfl, hb2⟩; rw [HN.out]))))
    go_roundw
    case rel => exact ⟨m + 1, by go_num, by omega, fun j hj hjm => by
     by_cases e : j = m
     ·
      subst e; exact HD.out.trans HN.out
     ·
      exact hm.out j hj (by omega), bl⟩
    case measure => simp [intOf]; omega
  ·
   have hd : decide ((m : Int) < (l.length : Int)) = false := by simp; omega
   exfalso
   have := inAll_yes (s := (TStore.mk x0 x1 x2 x3 x4 x5 x6 x7 x8 x9 x10 x11 x12)) (l := l) fun i hi => hm.out i hi (by omega)
   rw [HALL.out] at this; cases this
set_option maxHeartbeats 8000000 in
theorem implGen_ctlo (s : TStore) (op ct : Int) (l : List TValue) (hc : ct < 1) (hall : inAllB s l = true) (hval : validB s = true) : GenI s 1 op ct l := by
 intro S S' w vs A c htab hv hR
 obtain ⟨x0, x1, x2, x3, x4, x5, x6, x7, x8, x9, x10, x11, x12⟩ := s
 have HV := hide hv
 obtain ⟨A0, c0, A1, c1, A2, c2, A3, c3, A6, c6, A7, c7, A8, c8, rfl, hlc0, hcm0, hlc1, hcm1, hlc2, hcm2, hlc3, hcm3, hlc6, hcm6, hlc7, hcm7, hlc8, hcm8, g4, g5, g10, g11, g12, HR0, HR1, HR2, HR3, HR6, HR7, HR8, HS1⟩ := TStore.opn 36 hv
 clear hv
 have HT := hide htab
 clear htab
 have HR := hide hR
 have hlen := hR.1
 have hcm := hR.2.1
 simp only [List.length_map] at hlen
 unfold maxLen at hcm
 clear hR
 have RR := hide (show (validB (TStore.mk x0 x1 x2 x3 x4 x5 x6 x7 x8 x9 x10 x11 x12) && genB (TStore.mk x0 x1 x2 x3 x4 x5 x6 x7 x8 x9 x10 x11 x12) 1 op ct l) = false by rw [hval, Bool.true_and]; exact gen_1n hall (by omega))
 have HALL := hide hall
 have HVL := hide hval
 have fc : decide (ct < 1) = true := decide_eq_true hc
 clear hall hval hc
 go_enter Tryd.func22, Tryd.ntmps22
 have mkq := True.intro
 repeat (any_goals ((first | clear mkq | go_quiet (fail)); (try go_wp2_with (go_at_call 10; refine (implValid_any (TStore.mk x0 x1 x2 x3 x4 x5 x6 x7 x8 x9 x10 x11 x12) S _ _ (HT.out.on bl) (Dat.HoldVals.bel bl HV.out)).mono ?_; rintro e w1 ⟨rfl, hb1⟩; rw [HVL.out]; (have hz1 := hb1.sz; obtain ⟨hk1_0, hf1_0, hl1_0, hn1_0⟩ := hb1.lay (w.heap.size); obtain ⟨hk1_1, hf1_1, hl1_1, hn1_1⟩ := hb1.lay (w.heap.size + 1))))))
 have HSw := hide (show StoreAt w1 S w.heap.size (TStore.mk x0 x1 x2 x3 x4 x5 x6 x7 x8 x9 x10 x11 x12) from StoreAt.bel bl HS1.out)
 have hb1w : Bel w w1 := bl
 go_loopw [15] (fun v wr => ∃ m : Nat, v = .int .i64 m ∧ m ≤ l.length ∧ Bel w1 wr) (fun v _ => l.length - (intOf v).toNat)
 case atStart => exact ⟨0, rfl, by omega, Bel.refl _⟩
 case round =>
  obtain ⟨m, rfl, m1, hb0⟩ := hrel
  have HSr := hide (StoreAt.bel hb0 HSw.out)
  have hbw : Bel w wr := hb1w.trans hb0
  have hz0 := hb0.size
  have p0 : wr.cell? ⟨w.heap.size + 1, 0, none⟩ = some (.int .i64 1) := (hb0.box (w.heap.size + 1) hl1_1 0).trans (by rw [hk1_1]; simp)
  have p1 : wr.cell? ⟨w.heap.size + 1, 1, none⟩ = some (.int .i64 op) := (hb0.box (w.heap.size + 1) hl1_1 1).trans (by rw [hk1_1]; simp)
  have p2 : wr.cell? ⟨w.heap.size + 1, 2, none⟩ = some (.int .i64 ct) := (hb0.box (w.heap.size + 1) hl1_1 2).trans (by rw [hk1_1]; simp)
  have p3 : wr.cell? ⟨w.heap.size + 1, 3, none⟩ = some (.slice A l.length c) := (hb0.box (w.heap.size + 1) hl1_1 3).trans (by rw [hk1_1]; simp)
  have hl0 : w.heap.size < wr.heap.size := by omega
  have hl1 : w.heap.size + 1 < wr.heap.size := by omega
  have hn1 : ¬ w.heap.size + 1 = wr.heap.size := by omega
  by_cases h1 : m < l.length
  ·
   exact rq0
  ·
   exact rq5
set_option maxHeartbeats 8000000 in
theorem implGen_cthi (s : TStore) (op ct : Int) (l : List TValue) (hc : 1 ≤ ct ∧ 5000 < ct) (hall : inAllB s l = true) (hval : validB s = true) : GenI s 1 op ct l := by
 intro S S' w vs A c htab hv hR
 obtain ⟨x0, x1, x2, x3, x4, x5, x6, x7, x8, x9, x10, x11, x12⟩ := s
 have HV := hide hv
 obtain ⟨A0, c0, A1, c1, A2, c2, A3, c3, A6, c6, A7, c7, A8, c8, rfl, hlc0, hcm0, hlc1, hcm1, hlc2, hcm2, hlc3, hcm3, hlc6, hcm6, hlc7, hcm7, hlc8, hcm8, g4, g5, g10, g11, g12, HR0, HR1, HR2, HR3, HR6, HR7, HR8, HS1⟩ := TStore.opn 36 hv
 clear hv
 have HT := hide htab
 clear htab
 have HR := hide hR
 have hlen := hR.1
 have hcm := hR.2.1
 simp only [List.length_map] at hlen
 unfold maxLen at hcm
 clear hR
 have RR := hide (show (validB (TStore.mk x0 x1 x2 x3 x4 x5 x6 x7 x8 x9 x10 x11 x12) && genB (TStore.mk x0 x1 x2 x3 x4 x5 x6 x7 x8 x9 x10 x11 x12) 1 op ct l) = false by rw [hval, Bool.true_and]; exact gen_1n hall (by omega))
 have HALL := hide hall
 have HVL := hide hval
 have fc : decide (ct < 1) = false := decide_eq_false (by omega)
 have fd : decide (5000 < ct) = true := decide_eq_true hc.2
 clear hall hval hc
 go_enter Tryd.func22, Tryd.ntmps22
 have mkq := True.intro
 repeat (any_goals ((first | clear mkq | go_quiet (fail)); (try go_wp2_with (go_at_call 10; refine (implValid_any (TStore.mk x0 x1 x2 x3 x4 x5 x6 x7 x8 x9 x10 x11 x12) S _ _ (HT.out.on bl) (Dat.HoldVals.bel bl HV.out)).mono ?_; rintro e w1 ⟨rfl, hb1⟩; rw [HVL.out]; (have hz1 := hb1.sz; obtain ⟨hk1_0, hf1_0, hl1_0, hn1_0⟩ := hb1.lay (w.heap.size); obtain ⟨hk1_1, hf1_1, hl1_1, hn1_1⟩ := hb1.lay (w.heap.size + 1))))))
 have HSw := hide (show StoreAt w1 S w.heap.size (TStore.mk x0 x1 x2 x3 x4 x5 x6 x7 x8 x9 x10 x11 x12) from StoreAt.bel bl HS1.out)
 have hb1w : Bel w w1 := bl
 go_loopw [15] (fun v wr => ∃ m : Nat, v = .int .i64 m ∧ m ≤ l.length ∧ Bel w1 wr) (fun v _ => l.length - (intOf v).toNat)
 case atStart => exact ⟨0, rfl, by omega, Bel.refl _⟩
 case round =>
  obtain ⟨m, rfl, m1, hb0⟩ := hrel
  have HSr := hide (StoreAt.bel hb0 HSw.out)
  have hbw : Bel w wr := hb1w.trans hb0
  have hz0 := hb0.size
  have p0 : wr.cell? ⟨w.heap.size + 1, 0, none⟩ = some (.int .i64 1) := (hb0.box (w.heap.size + 1) hl1_1 0).trans (by rw [hk1_1]; simp)
  have p1 : wr.cell? ⟨w.heap.size + 1, 1, none⟩ = some (.int .i64 op) := (hb0.box (w.heap.size + 1) hl1_1 1).trans (by rw [hk1_1]; simp)
  have p2 : wr.cell? ⟨w.heap.size + 1, 2, none⟩ = some (.int .i64 ct) := (hb0.box (w.heap.size + 1) hl1_1 2).trans (by rw [hk1_1]; simp)
  have p3 : wr.cell? ⟨w.heap.size + 1, 3, none⟩ = some (.slice A l.length c) := (hb0.box (w.heap.size + 1) hl1_1 3).trans (by rw [hk1_1]; simp)
  have hl0 : w.heap.size < wr.heap.size := by omega
  have hl1 : w.heap.size + 1 < wr.heap.size := by omega
  have hn1 : ¬ w.heap.size + 1 = wr.heap.size := by omega
  by_cases h1 : m < l.length
  ·
   exact rq0
  ·
   exact rq5
set_option maxHeartbeats 8000000 in
theorem implGen_7n (s : TStore) (ct : Int) (l : List TValue) (hc : 1 ≤ ct ∧ ct ≤ 5000) (hl : l.length ≠ 1) (hall : inAllB s l = true) (hval : validB s = true) : GenI s 1 7 ct l := by
 intro S S' w vs A c htab hv hR
 obtain ⟨x0, x1, x2, x3, x4, x5, x6, x7, x8, x9, x10, x11, x12⟩ := s
 have HV := hide hv
 obtain ⟨A0, c0, A1, c1, A2, c2, A3, c3, A6, c6, A7, c7, A8, c8, rfl, hlc0, hcm0, hlc1, hcm1, hlc2, hcm2, hlc3, hcm3, hlc6, hcm6, hlc7, hcm7, hlc8, hcm8, g4, g5, g10, g11, g12, HR0, HR1, HR2, HR3, HR6, HR7, HR8, HS1⟩ := TStore.opn 36 hv
 clear hv
 have HT := hide htab
 clear htab
 have HR := hide hR
 have hlen := hR.1
 have hcm := hR.2.1
 simp only [List.length_map] at hlen
 unfold maxLen at hcm
 clear hR
 have RR := hide (show (validB (TStore.mk x0 x1 x2 x3 x4 x5 x6 x7 x8 x9 x10 x11 x12) && genB (TStore.mk x0 x1 x2 x3 x4 x5 x6 x7 x8 x9 x10 x11 x12) 1 7 ct l) = false by rw [hval, Bool.true_and]; rw [gen_1y hall hc, opsB_7, decide_eq_false hl]; rfl)
 have HALL := hide hall
 have HVL := hide hval
 have fc : decide (ct < 1) = false := decide_eq_false (by omega)
 have fd : decide (5000 < ct) = false := decide_eq_false (by omega)
 have fl : ((l.length : Int) == 1) = false := by rw [beq_eq_false_iff_ne]; omega
 clear hall hval hc hl
 go_enter Tryd.func22, Tryd.ntmps22
 have mkq := True.intro
 repeat (any_goals ((first | clear mkq | go_quiet (fail)); (try go_wp2_with (go_at_call 10; refine (implValid_any (TStore.mk x0 x1 x2 x3 x4 x5 x6 x7 x8 x9 x10 x11 x12) S _ _ (HT.out.on bl) (Dat.HoldVals.bel bl HV.out)).mono ?_; rintro e w1 ⟨rfl, hb1⟩; rw [HVL.out]; (have hz1 := hb1.sz; obtain ⟨hk1_0, hf1_0, hl1_0, hn1_0⟩ := hb1.lay (w.heap.size); obtain ⟨hk1_1, hf1_1, hl1_1, hn1_1⟩ := hb1.lay (w.heap.size + 1))))))
 have HSw := hide (show StoreAt w1 S w.heap.size (TStore.mk x0 x1 x2 x3 x4 x5 x6 x7 x8 x9 x10 x11 x12) from StoreAt.bel bl HS1.out)
 have hb1w : Bel w w1 := bl
 go_loopw [15] (fun v wr => ∃ m : Nat, v = .int .i64 m ∧ m ≤ l.length ∧ Bel w1 wr) (fun v _ => l.length - (intOf v).toNat)
 case atStart => exact ⟨0, rfl, by omega, Bel.refl _⟩
 case round =>
  obtain ⟨m, rfl, m1, hb0⟩ := hrel
  have HSr := hide (StoreAt.bel hb0 HSw.out)
  have hbw : Bel w wr := hb1w.trans hb0
  have hz0 := hb0.size
  have p0 : wr.cell? ⟨w.heap.size + 1, 0, none⟩ = some (.int .i64 1) := (hb0.box (w.heap.size + 1) hl1_1 0).trans (by rw [hk1_1]; simp)
  have p1 : wr.cell? ⟨w.heap.size + 1, 1, none⟩ = some (.int .i64 7) := (hb0.box (w.heap.size + 1) hl1_1 1).trans (by rw [hk1_1]; simp)
  have p2 : wr.cell? ⟨w.heap.size + 1, 2, none⟩ = some (.int .i64 ct) := (hb0.box (w.heap.size + 1) hl1_1 2).trans (by rw [hk1_1]; simp)
  have p3 : wr.cell? ⟨w.heap.size + 1, 3, none⟩ = some (.slice A l.length c) := (hb0.box (w.heap.size + 1) hl1_1 3).trans (by rw [hk1_1]; simp)
  have hl0 : w.heap.size < wr.heap.size := by omega
  have hl1 : w.heap.size + 1 < wr.heap.size := by omega
  have hn1 : ¬ w.heap.size + 1 = wr.heap.size := by omega
  by_cases h1 : m < l.length
  ·
   exact rq0
  ·
   exact rq5
set_option maxHeartbeats 8000000 in
theorem implGen_7y (s : TStore) (ct : Int) (l : List TValue) (hc : 1 ≤ ct ∧ ct ≤ 5000) (hl : l.length = 1) (hall : inAllB s l = true) (hval : validB s = true) : GenI s 1 7 ct l := by
 intro S S' w vs A c htab hv hR
 obtain ⟨x0, x1, x2, x3, x4, x5, x6, x7, x8, x9, x10, x11, x12⟩ := s
 have HV := hide hv
 obtain ⟨A0, c0, A1, c1, A2, c2, A3, c3, A6, c6, A7, c7, A8, c8, rfl, hlc0, hcm0, hlc1, hcm1, hlc2, hcm2, hlc3, hcm3, hlc6, hcm6, hlc7, hcm7, hlc8, hcm8, g4, g5, g10, g11, g12, HR0, HR1, HR2, HR3, HR6, HR7, HR8, HS1⟩ := TStore.opn 36 hv
 clear hv
 have HT := hide htab
 clear htab
 have HR := hide hR
 have hlen := hR.1
 have hcm := hR.2.1
 simp only [List.length_map] at hlen
 unfold maxLen at hcm
 clear hR
 have R0 := hide (show (validB (TStore.mk x0 x1 x2 x3 x4 x5 x6 x7 x8 x9 x10 x11 x12) && genB (TStore.mk x0 x1 x2 x3 x4 x5 x6 x7 x8 x9 x10 x11 x12) 1 7 ct l) = opsB 7 l by rw [hval, Bool.true_and]; exact gen_1y hall hc)
 have HALL := hide hall
 have HVL := hide hval
 have fc : decide (ct < 1) = false := decide_eq_false (by omega)
 have fd : decide (5000 < ct) = false := decide_eq_false (by omega)
 have d0 : decide ((0 : Int) < (l.length : Int)) = true := by simp; omega
 have d0n : decide (0 < l.length) = true := by simp; omega
 have i0 : 0 < l.length := by omega
 have j0 : (0 : Int) < (l.length : Int) := by omega
 have fl : ((l.length : Int) == 1) = true := by rw [beq_iff_eq]; omega
 have HL := hide hl
 clear hall hval hc hl
 go_enter Tryd.func22, Tryd.ntmps22
 have mkq := True.intro
 repeat (any_goals ((first | clear mkq | go_quiet (fail)); (try go_wp2_with (go_at_call 10; refine (implValid_any (TStore.mk x0 x1 x2 x3 x4 x5 x6 x7 x8 x9 x10 x11 x12) S _ _ (HT.out.on bl) (Dat.HoldVals.bel bl HV.out)).mono ?_; rintro e w1 ⟨rfl, hb1⟩; rw [HVL.out]; (have hz1 := hb1.sz; obtain ⟨hk1_0, hf1_0, hl1_0, hn1_0⟩ := hb1.lay (w.heap.size); obtain ⟨hk1_1, hf1_1, hl1_1, hn1_1⟩ := hb1.lay (w.heap.size + 1))))))
 have HSw := hide (show StoreAt w1 S w.heap.size (TStore.mk x0 x1 x2 x3 x4 x5 x6 x7 x8 x9 x10 x11 x12) from StoreAt.bel bl HS1.out)
 have hb1w : Bel w w1 := bl
 go_loopw [15] (fun v wr => ∃ m : Nat, v = .int .i64 m ∧ m ≤ l.length ∧ Bel w1 wr) (fun v _ => l.length - (intOf v).toNat)
 case atStart => exact ⟨0, rfl, by omega, Bel.refl _⟩
 case round =>
  obtain ⟨m, rfl, m1, hb0⟩ := hrel
  have HSr := hide (StoreAt.bel hb0 HSw.out)
  have hbw : Bel w wr := hb1w.trans hb0
  have hz0 := hb0.size
  have p0 : wr.cell? ⟨w.heap.size + 1, 0, none⟩ = some (.int .i64 1) := (hb0.box (w.heap.size + 1) hl1_1 0).trans (by rw [hk1_1]; simp)
  have p1 : wr.cell? ⟨w.heap.size + 1, 1, none⟩ = some (.int .i64 7) := (hb0.box (w.heap.size + 1) hl1_1 1).trans (by rw [hk1_1]; simp)
  have p2 : wr.cell? ⟨w.heap.size + 1, 2, none⟩ = some (.int .i64 ct) := (hb0.box (w.heap.size + 1) hl1_1 2).trans (by rw [hk1_1]; simp)
  have p3 : wr.cell? ⟨w.heap.size + 1, 3, none⟩ = some (.slice A l.length c) := (hb0.box (w.heap.size + 1) hl1_1 3).trans (by rw [hk1_1]; simp)
  have hl0 : w.heap.size < wr.heap.size := by omega
  have hl1 : w.heap.size + 1 < wr.heap.size := by omega
  have hn1 : ¬ w.heap.size + 1 = wr.heap.size := by omega
  by_cases h1 : m < l.length
  ·
   exact rq0
  ·
   have hd : decide ((m : Int) < (l.length : Int)) = false := by simp; omega
   (obtain ⟨b22, o22, x22_0, x22_1, x22_2, x22_3, x22_4, x22_5, hA22, hS22, hl22, hx22, hv22, g22_0, g22_1, g22_2, g22_3, g22_4, g22_5, c22_0, c22_1, c22_2, c22_3, c22_4, c22_5⟩ := TValue.at HR.out 0 (by have := HL.out; omega); subst hA22; have HV22 := hide (Dat.HoldVals.bel hbw hv22); have hh22 := hbw.box b22 hl22; have hw22 := Nat.lt_of_lt_of_le hl22 (Bel.size hbw); replace c22_0 := (hh22 _).trans c22_0; replace c22_1 := (hh22 _).trans c22_1; replace c22_2 := (hh22 _).trans c22_2; replace c22_3 := (hh22 _).trans c22_3; replace c22_4 := (hh22 _).trans c22_4; replace c22_5 := (hh22 _).trans c22_5; have HX22 := hide hx22; clear hh22 hv22 hx22 hS22; simp only [Nat.zero_mul, Nat.one_mul, Nat.add_zero, Nat.reduceMul, Nat.add_assoc, Nat.reduceAdd] at c22_0 c22_1 c22_2 c22_3 c22_4 c22_5)
   have hb2w : b22 < wr.heap.size := by omega
   have hne22 : ¬ b22 = wr.heap.size := by omega
   have HV0 := hide (show vAt l 0 = ⟨x22_0, x22_1, x22_2, x22_3, x22_4, x22_5⟩ by rw [vAt_get (by have := HL.out; omega), HX22.out]; rfl)
   have RR := hide (R0.out.trans (show opsB 7 l = decide (x22_0 ≤ 12) by rw [opsB_7, decide_eq_true HL.out, HV0.out]; rfl))
   go_wp2_with (fail)
   repeat (any_goals (go_quiet (fail); (try go_wp2_with (fail))))
   all_goals
    go_returns
    exact ⟨by rw [RR.out]; first | done | rfl, bl⟩
set_option maxHeartbeats 8000000 in
theorem implGen_out1 (s : TStore) (op ct : Int) (l : List TValue) (hc : 1 ≤ ct ∧ ct ≤ 5000) (ho : op ≠ 7 ∧ op ≠ 72 ∧ op ≠ 338 ∧ op ≠ 317 ∧ op ≠ 320 ∧ op ≠ 321) (hall : inAllB s l = true) (hval : validB s = true) : GenI s 1 op ct l := by
 intro S S' w vs A c htab hv hR
 obtain ⟨x0, x1, x2, x3, x4, x5, x6, x7, x8, x9, x10, x11, x12⟩ := s
 have HV := hide hv
 obtain ⟨A0, c0, A1, c1, A2, c2, A3, c3, A6, c6, A7, c7, A8, c8, rfl, hlc0, hcm0, hlc1, hcm1, hlc2, hcm2, hlc3, hcm3, hlc6, hcm6, hlc7, hcm7, hlc8, hcm8, g4, g5, g10, g11, g12, HR0, HR1, HR2, HR3, HR6, HR7, HR8, HS1⟩ := TStore.opn 36 hv
 clear hv
 have HT := hide htab
 clear htab
 have HR := hide hR
 have hlen := hR.1
 have hcm := hR.2.1
 simp only [List.length_map] at hlen
 unfold maxLen at hcm
 clear hR
 have RR := hide (show (validB (TStore.mk x0 x1 x2 x3 x4 x5 x6 x7 x8 x9 x10 x11 x12) && genB (TStore.mk x0 x1 x2 x3 x4 x5 x6 x7 x8 x9 x10 x11 x12) 1 op ct l) = false by rw [hval, Bool.true_and]; rw [gen_1y hall hc, opsB_out l ho])
 have HALL := hide hall
 have HVL := hide hval
 have fc : decide (ct < 1) = false := decide_eq_false (by omega)
 have fd : decide (5000 < ct) = false := decide_eq_false (by omega)
 have fo7 : (op == 7) = false := by rw [beq_eq_false_iff_ne]; omega
 have fo72 : (op == 72) = false := by rw [beq_eq_false_iff_ne]; omega
 have fo338 : (op == 338) = false := by rw [beq_eq_false_iff_ne]; omega
 have fo317 : (op == 317) = false := by rw [beq_eq_false_iff_ne]; omega
 have fo320 : (op == 320) = false := by rw [beq_eq_false_iff_ne]; omega
 have fo321 : (op == 321) = false := by rw [beq_eq_false_iff_ne]; omega
 clear hall hval hc ho
 go_enter Tryd.func22, Tryd.ntmps22
 have mkq := True.intro
 repeat (any_goals ((first | clear mkq | go_quiet (fail)); (try go_wp2_with (go_at_call 10; refine (implValid_any (TStore.mk x0 x1 x2 x3 x4 x5 x6 x7 x8 x9 x10 x11 x12) S _ _ (HT.out.on bl) (Dat.HoldVals.bel bl HV.out)).mono ?_; rintro e w1 ⟨rfl, hb1⟩; rw [HVL.out]; (have hz1 := hb1.sz; obtain ⟨hk1_0, hf1_0, hl1_0, hn1_0⟩ := hb1.lay (w.heap.size); obtain ⟨hk1_1, hf1_1, hl1_1, hn1_1⟩ := hb1.lay (w.heap.size + 1))))))
 have HSw := hide (show StoreAt w1 S w.heap.size (TStore.mk x0 x1 x2 x3 x4 x5 x6 x7 x8 x9 x10 x11 x12) from StoreAt.bel bl HS1.out)
 have hb1w : Bel w w1 := bl
 go_loopw [15] (fun v wr => ∃ m : Nat, v = .int .i64 m ∧ m ≤ l.length ∧ Bel w1 wr) (fun v _ => l.length - (intOf v).toNat)
 case atStart => exact ⟨0, rfl, by omega, Bel.refl _⟩
 case round =>
  obtain ⟨m, rfl, m1, hb0⟩ := hrel
  have HSr := hide (StoreAt.bel hb0 HSw.out)
  have hbw : Bel w wr := hb1w.trans hb0
  have hz0 := hb0.size
  have p0 : wr.cell? ⟨w.heap.size + 1, 0, none⟩ = some (.int .i64 1) := (hb0.box (w.heap.size + 1) hl1_1 0).trans (by rw [hk1_1]; simp)
  have p1 : wr.cell? ⟨w.heap.size + 1, 1, none⟩ = some (.int .i64 op) := (hb0.box (w.heap.size + 1) hl1_1 1).trans (by rw [hk1_1]; simp)
  have p2 : wr.cell? ⟨w.heap.size + 1, 2, none⟩ = some (.int .i64 ct) := (hb0.box (w.heap.size + 1) hl1_1 2).trans (by rw [hk1_1]; simp)
  have p3 : wr.cell? ⟨w.heap.size + 1, 3, none⟩ = some (.slice A l.length c) := (hb0.box (w.heap.size + 1) hl1_1 3).trans (by rw [hk1_1]; simp)
  have hl0 : w.heap.size < wr.heap.size := by omega
  have hl1 : w.heap.size + 1 < wr.heap.size := by omega
  have hn1 : ¬ w.heap.size + 1 = wr.heap.size := by omega
  by_cases h1 : m < l.length
  ·
   exact rq0
  ·
   exact rq5
end Go.Proofs.YtebbpcgiacckfaaDoor
namespace Go.Proofs.YtebbpcgiacckfaaDoor
set_option linter.unusedVariables false
set_option linter.unusedSimpArgs false
set_option maxRecDepth 100000
open Go.RowKit
--%quiet
set_option maxHeartbeats 8000000 in
theorem implGen_72n (s : TStore) (ct : Int) (l : List TValue) (hc : 1 ≤ ct ∧ ct ≤ 5000) (hl : l.length ≠ 3) (hall : inAllB s l = true) (hval : validB s = true) : GenI s 1 72 ct l := by
 intro S S' w vs A c htab hv hR
 obtain ⟨x0, x1, x2, x3, x4, x5, x6, x7, x8, x9, x10, x11, x12⟩ := s
 have HV := hide hv
 obtain ⟨A0, c0, A1, c1, A2, c2, A3, c3, A6, c6, A7, c7, A8, c8, rfl, hlc0, hcm0, hlc1, hcm1, hlc2, hcm2, hlc3, hcm3, hlc6, hcm6, hlc7, hcm7, hlc8, hcm8, g4, g5, g10, g11, g12, HR0, HR1, HR2, HR3, HR6, HR7, HR8, HS1⟩ := TStore.opn 36 hv
 clear hv
 have HT := hide htab
 clear htab
 have HR := hide hR
 have hlen := hR.1
 have hcm := hR.2.1
 simp only [List.length_map] at hlen
 unfold maxLen at hcm
 clear hR
 have RR := hide (show (validB (TStore.mk x0 x1 x2 x3 x4 x5 x6 x7 x8 x9 x10 x11 x12) && genB (TStore.mk x0 x1 x2 x3 x4 x5 x6 x7 x8 x9 x10 x11 x12) 1 72 ct l) = false by rw [hval, Bool.true_and]; rw [gen_1y hall hc, opsB_72, kinds_len (by simpa using hl)]; rfl)
 have HALL := hide hall
 have HVL := hide hval
 have fc : decide (ct < 1) = false := decide_eq_false (by omega)
 have fd : decide (5000 < ct) = false := decide_eq_false (by omega)
 have fl : ((l.length : Int) == 3) = false := by rw [beq_eq_false_iff_ne]; omega
 clear hall hval hc hl
 go_enter Tryd.func22, Tryd.ntmps22
 have mkq := True.intro
 repeat (any_goals ((first | clear mkq | go_quiet (fail)); (try go_wp2_with (go_at_call 10; refine (implValid_any (TStore.mk x0 x1 x2 x3 x4 x5 x6 x7 x8 x9 x10 x11 x12) S _ _ (HT.out.on bl) (Dat.HoldVals.bel bl HV.out)).mono ?_; rintro e w1 ⟨rfl, hb1⟩; rw [HVL.out]; (have hz1 := hb1.sz; obtain ⟨hk1_0, hf1_0, hl1_0, hn1_0⟩ := hb1.lay (w.heap.size); obtain ⟨hk1_1, hf1_1, hl1_1, hn1_1⟩ := hb1.lay (w.heap.size + 1))))))
 have HSw := hide (show StoreAt w1 S w.heap.size (TStore.mk x0 x1 x2 x3 x4 x5 x6 x7 x8 x9 x10 x11 x12) from StoreAt.bel bl HS1.out)
 have hb1w : Bel w w1 := bl
 go_loopw [15] (fun v wr => ∃ m : Nat, v = .int .i64 m ∧ m ≤ l.length ∧ Bel w1 wr) (fun v _ => l.length - (intOf v).toNat)
 case atStart => exact ⟨0, rfl, by omega, Bel.refl _⟩
 case round =>
  obtain ⟨m, rfl, m1, hb0⟩ := hrel
  have HSr := hide (StoreAt.bel hb0 HSw.out)
  have hbw : Bel w wr := hb1w.trans hb0
  have hz0 := hb0.size
  have p0 : wr.cell? ⟨w.heap.size + 1, 0, none⟩ = some (.int .i64 1) := (hb0.box (w.heap.size + 1) hl1_1 0).trans (by rw [hk1_1]; simp)
  have p1 : wr.cell? ⟨w.heap.size + 1, 1, none⟩ = some (.int .i64 72) := (hb0.box (w.heap.size + 1) hl1_1 1).trans (by rw [hk1_1]; simp)
  have p2 : wr.cell? ⟨w.heap.size + 1, 2, none⟩ = some (.int .i64 ct) := (hb0.box (w.heap.size + 1) hl1_1 2).trans (by rw [hk1_1]; simp)
  have p3 : wr.cell? ⟨w.heap.size + 1, 3, none⟩ = some (.slice A l.length c) := (hb0.box (w.heap.size + 1) hl1_1 3).trans (by rw [hk1_1]; simp)
  have hl0 : w.heap.size < wr.heap.size := by omega
  have hl1 : w.heap.size + 1 < wr.heap.size := by omega
  have hn1 : ¬ w.heap.size + 1 = wr.heap.size := by omega
  by_cases h1 : m < l.length
  ·
   exact rq0
  ·
   exact rq5
set_option maxHeartbeats 8000000 in
theorem implGen_72y (s : TStore) (ct : Int) (l : List TValue) (hc : 1 ≤ ct ∧ ct ≤ 5000) (hl : l.length = 3) (hall : inAllB s l = true) (hval : validB s = true) : GenI s 1 72 ct l := by
 intro S S' w vs A c htab hv hR
 obtain ⟨x0, x1, x2, x3, x4, x5, x6, x7, x8, x9, x10, x11, x12⟩ := s
 have HV := hide hv
 obtain ⟨A0, c0, A1, c1, A2, c2, A3, c3, A6, c6, A7, c7, A8, c8, rfl, hlc0, hcm0, hlc1, hcm1, hlc2, hcm2, hlc3, hcm3, hlc6, hcm6, hlc7, hcm7, hlc8, hcm8, g4, g5, g10, g11, g12, HR0, HR1, HR2, HR3, HR6, HR7, HR8, HS1⟩ := TStore.opn 36 hv
 clear hv
 have HT := hide htab
 clear htab
 have HR := hide hR
 have hlen := hR.1
 have hcm := hR.2.1
 simp only [List.length_map] at hlen
 unfold maxLen at hcm
 clear hR
 have R0 := hide (show (validB (TStore.mk x0 x1 x2 x3 x4 x5 x6 x7 x8 x9 x10 x11 x12) && genB (TStore.mk x0 x1 x2 x3 x4 x5 x6 x7 x8 x9 x10 x11 x12) 1 72 ct l) = opsB 72 l by rw [hval, Bool.true_and]; exact gen_1y hall hc)
 have HALL := hide hall
 have HVL := hide hval
 have fc : decide (ct < 1) = false := decide_eq_false (by omega)
 have fd : decide (5000 < ct) = false := decide_eq_false (by omega)
 have d0 : decide ((0 : Int) < (l.length : Int)) = true := by simp; omega
 have d0n : decide (0 < l.length) = true := by simp; omega
 have i0 : 0 < l.length := by omega
 have j0 : (0 : Int) < (l.length : Int) := by omega
 have d1 : decide ((1 : Int) < (l.length : Int)) = true := by simp; omega
 have d1n : decide (1 < l.length) = true := by simp; omega
 have i1 : 1 < l.length := by omega
 have j1 : (1 : Int) < (l.length : Int) := by omega
 have d2 : decide ((2 : Int) < (l.length : Int)) = true := by simp; omega
 have d2n : decide (2 < l.length) = true := by simp; omega
 have i2 : 2 < l.length := by omega
 have j2 : (2 : Int) < (l.length : Int) := by omega
 have fl : ((l.length : Int) == 3) = true := by rw [beq_iff_eq]; omega
 have HL := hide hl
 clear hall hval hc hl
 go_enter Tryd.func22, Tryd.ntmps22
 have mkq := True.intro
 repeat (any_goals ((first | clear mkq | go_quiet (fail)); (try go_wp2_with (go_at_call 10; refine (implValid_any (TStore.mk x0 x1 x2 x3 x4 x5 x6 x7 x8 x9 x10 x11 x12) S _ _ (HT.out.on bl) (Dat.HoldVals.bel bl HV.out)).mono ?_; rintro e w1 ⟨rfl, hb1⟩; rw [HVL.out]; (have hz1 := hb1.sz; obtain ⟨hk1_0, hf1_0, hl1_0, hn1_0⟩ := hb1.lay (w.heap.size); obtain ⟨hk1_1, hf1_1, hl1_1, hn1_1⟩ := hb1.lay (w.heap.size + 1))))))
 have HSw := hide (show StoreAt w1 S w.heap.size (TStore.mk x0 x1 x2 x3 x4 x5 x6 x7 x8 x9 x10 x11 x12) from StoreAt.bel bl HS1.out)
 have hb1w : Bel w w1 := bl
 go_loopw [15] (fun v wr => ∃ m : Nat, v = .int .i64 m ∧ m ≤ l.length ∧ Bel w1 wr) (fun v _ => l.length - (intOf v).toNat)
 case atStart => exact ⟨0, rfl, by omega, Bel.refl _⟩
 case round =>
  obtain ⟨m, rfl, m1, hb0⟩ := hrel
  have HSr := hide (StoreAt.bel hb0 HSw.out)
  have hbw : Bel w wr := hb1w.trans hb0
  have hz0 := hb0.size
  have p0 : wr.cell? ⟨w.heap.size + 1, 0, none⟩ = some (.int .i64 1) := (hb0.box (w.heap.size + 1) hl1_1 0).trans (by rw [hk1_1]; simp)
  have p1 : wr.cell? ⟨w.heap.size + 1, 1, none⟩ = some (.int .i64 72) := (hb0.box (w.heap.size + 1) hl1_1 1).trans (by rw [hk1_1]; simp)
  have p2 : wr.cell? ⟨w.heap.size + 1, 2, none⟩ = some (.int .i64 ct) := (hb0.box (w.heap.size + 1) hl1_1 2).trans (by rw [hk1_1]; simp)
  have p3 : wr.cell? ⟨w.heap.size + 1, 3, none⟩ = some (.slice A l.length c) := (hb0.box (w.heap.size + 1) hl1_1 3).trans (by rw [hk1_1]; simp)
  have hl0 : w.heap.size < wr.heap.size := by omega
  have hl1 : w.heap.size + 1 < wr.heap.size := by omega
  have hn1 : ¬ w.heap.size + 1 = wr.heap.size := by omega
  by_cases h1 : m < l.length
  ·
   exact rq0
  ·
   have hd : decide ((m : Int) < (l.length : Int)) = false := by simp; omega
   (obtain ⟨b22, o22, x22_0, x22_1, x22_2, x22_3, x22_4, x22_5, hA22, hS22, hl22, hx22, hv22, g22_0, g22_1, g22_2, g22_3, g22_4, g22_5, c22_0, c22_1, c22_2, c22_3, c22_4, c22_5⟩ := TValue.at HR.out 0 (by have := HL.out; omega); subst hA22; have HV22 := hide (Dat.HoldVals.bel hbw hv22); have hh22 := hbw.box b22 hl22; have hw22 := Nat.lt_of_lt_of_le hl22 (Bel.size hbw); replace c22_0 := (hh22 _).trans c22_0; replace c22_1 := (hh22 _).trans c22_1; replace c22_2 := (hh22 _).trans c22_2; replace c22_3 := (hh22 _).trans c22_3; replace c22_4 := (hh22 _).trans c22_4; replace c22_5 := (hh22 _).trans c22_5; have HX22 := hide hx22; clear hh22 hv22 hx22 hS22; simp only [Nat.zero_mul, Nat.one_mul, Nat.add_zero, Nat.reduceMul, Nat.add_assoc, Nat.reduceAdd] at c22_0 c22_1 c22_2 c22_3 c22_4 c22_5)
   (obtain ⟨b23, o23, x23_0, x23_1, x23_2, x23_3, x23_4, x23_5, hA23, hS23, hl23, hx23, hv23, g23_0, g23_1, g23_2, g23_3, g23_4, g23_5, c23_0, c23_1, c23_2, c23_3, c23_4, c23_5⟩ := TValue.at HR.out 1 (by have := HL.out; omega); injection Option.some.inj hA23 with qb23 qo23 _; subst qb23 qo23; have HV23 := hide (Dat.HoldVals.bel hbw hv23); have hh23 := hbw.box b22 hl23; have hw23 := Nat.lt_of_lt_of_le hl23 (Bel.size hbw); replace c23_0 := (hh23 _).trans c23_0; replace c23_1 := (hh23 _).trans c23_1; replace c23_2 := (hh23 _).trans c23_2; replace c23_3 := (hh23 _).trans c23_3; replace c23_4 := (hh23 _).trans c23_4; replace c23_5 := (hh23 _).trans c23_5; have HX23 := hide hx23; clear hh23 hv23 hx23 hS23; simp only [Nat.zero_mul, Nat.one_mul, Nat.add_zero, Nat.reduceMul, Nat.add_assoc, Nat.reduceAdd] at c23_0 c23_1 c23_2 c23_3 c23_4 c23_5)
   (obtain ⟨b24, o24, x24_0, x24_1, x24_2, x24_3, x24_4, x24_5, hA24, hS24, hl24, hx24, hv24, g24_0, g24_1, g24_2, g24_3, g24_4, g24_5, c24_0, c24_1, c24_2, c24_3, c24_4, c24_5⟩ := TValue.at HR.out 2 (by have := HL.out; omega); injection Option.some.inj hA24 with qb24 qo24 _; subst qb24 qo24; have HV24 := hide (Dat.HoldVals.bel hbw hv24); have hh24 := hbw.box b22 hl24; have hw24 := Nat.lt_of_lt_of_le hl24 (Bel.size hbw); replace c24_0 := (hh24 _).trans c24_0; replace c24_1 := (hh24 _).trans c24_1; replace c24_2 := (hh24 _).trans c24_2; replace c24_3 := (hh24 _).trans c24_3; replace c24_4 := (hh24 _).trans c24_4; replace c24_5 := (hh24 _).trans c24_5; have HX24 := hide hx24; clear hh24 hv24 hx24 hS24; simp only [Nat.zero_mul, Nat.one_mul, Nat.add_zero, Nat.reduceMul, Nat.add_assoc, Nat.reduceAdd] at c24_0 c24_1 c24_2 c24_3 c24_4 c24_5)
   have hb2w : b22 < wr.heap.size := by omega
   have hne22 : ¬ b22 = wr.heap.size := by omega
   have HV0 := hide (show vAt l 0 = ⟨x22_0, x22_1, x22_2, x22_3, x22_4, x22_5⟩ by rw [vAt_get (by have := HL.out; omega), HX22.out]; rfl)
   have HV1 := hide (show vAt l 1 = ⟨x23_0, x23_1, x23_2, x23_3, x23_4, x23_5⟩ by rw [vAt_get (by have := HL.out; omega), HX23.out]; rfl)
   have HV2 := hide (show vAt l 2 = ⟨x24_0, x24_1, x24_2, x24_3, x24_4, x24_5⟩ by rw [vAt_get (by have := HL.out; omega), HX24.out]; rfl)
   have R1 := hide (R0.out.trans (show opsB 72 l = (decide (x22_0 = 1) && decide (x23_0 = 1) && decide (x24_0 = 1) && decide (x24_1 ≠ 0)) by rw [opsB_72, kinds_get3 HL.out, HV0.out, HV1.out, HV2.out]))
   by_cases ha : x22_0 = 1
   case neg =>
    exact rq15
   have f0 : (x22_0 == 1) = true := by rw [beq_iff_eq]; exact ha
   by_cases hb : x23_0 = 1
   case neg =>
    exact rq16
   have f1 : (x23_0 == 1) = true := by rw [beq_iff_eq]; exact hb
   by_cases hc : x24_0 = 1
   case neg =>
    exact rq17
   have f2 : (x24_0 == 1) = true := by rw [beq_iff_eq]; exact hc
   have RR := hide (R1.out.trans (show _ = decide (x24_1 ≠ 0) by rw [decide_eq_true ha, decide_eq_true hb, decide_eq_true hc]; rfl))
   clear ha hb hc
   by_cases hz : x24_1 = 0
   ·
    exact rq18
   ·
    exact rq19
end Go.Proofs.YtebbpcgiacckfaaDoor
namespace Go.Proofs.YtebbpcgiacckfaaDoor
set_option linter.unusedVariables false
set_option linter.unusedSimpArgs false
set_option maxRecDepth 100000
open Go.RowKit
--%quiet
set_option maxHeartbeats 8000000 in
theorem implGen_338n (s : TStore) (ct : Int) (l : List TValue) (hc : 1 ≤ ct ∧ ct ≤ 5000) (hl : l.length ≠ 3) (hall : inAllB s l = true) (hval : validB s = true) : GenI s 1 338 ct l := by
 intro S S' w vs A c htab hv hR
 obtain ⟨x0, x1, x2, x3, x4, x5, x6, x7, x8, x9, x10, x11, x12⟩ := s
 have HV := hide hv
 obtain ⟨A0, c0, A1, c1, A2, c2, A3, c3, A6, c6, A7, c7, A8, c8, rfl, hlc0, hcm0, hlc1, hcm1, hlc2, hcm2, hlc3, hcm3, hlc6, hcm6, hlc7, hcm7, hlc8, hcm8, g4, g5, g10, g11, g12, HR0, HR1, HR2, HR3, HR6, HR7, HR8, HS1⟩ := TStore.opn 36 hv
 clear hv
 have HT := hide htab
 clear htab
 have HR := hide hR
 have hlen := hR.1
 have hcm := hR.2.1
 simp only [List.length_map] at hlen
 unfold maxLen at hcm
 clear hR
 have RR := hide (show (validB (TStore.mk x0 x1 x2 x3 x4 x5 x6 x7 x8 x9 x10 x11 x12) && genB (TStore.mk x0 x1 x2 x3 x4 x5 x6 x7 x8 x9 x10 x11 x12) 1 338 ct l) = false by rw [hval, Bool.true_and]; rw [gen_1y hall hc, opsB_338, kinds_len (by simpa using hl)]; rfl)
 have HALL := hide hall
 have HVL := hide hval
 have fc : decide (ct < 1) = false := decide_eq_false (by omega)
 have fd : decide (5000 < ct) = false := decide_eq_false (by omega)
 have fl : ((l.length : Int) == 3) = false := by rw [beq_eq_false_iff_ne]; omega
 clear hall hval hc hl
 go_enter Tryd.func22, Tryd.ntmps22
 have mkq := True.intro
 repeat (any_goals ((first | clear mkq | go_quiet (fail)); (try go_wp2_with (go_at_call 10; refine (implValid_any (TStore.mk x0 x1 x2 x3 x4 x5 x6 x7 x8 x9 x10 x11 x12) S _ _ (HT.out.on bl) (Dat.HoldVals.bel bl HV.out)).mono ?_; rintro e w1 ⟨rfl, hb1⟩; rw [HVL.out]; (have hz1 := hb1.sz; obtain ⟨hk1_0, hf1_0, hl1_0, hn1_0⟩ := hb1.lay (w.heap.size); obtain ⟨hk1_1, hf1_1, hl1_1, hn1_1⟩ := hb1.lay (w.heap.size + 1))))))
 have HSw := hide (show StoreAt w1 S w.heap.size (TStore.mk x0 x1 x2 x3 x4 x5 x6 x7 x8 x9 x10 x11 x12) from StoreAt.bel bl HS1.out)
 have hb1w : Bel w w1 := bl
 go_loopw [15] (fun v wr => ∃ m : Nat, v = .int .i64 m ∧ m ≤ l.length ∧ Bel w1 wr) (fun v _ => l.length - (intOf v).toNat)
 case atStart => exact ⟨0, rfl, by omega, Bel.refl _⟩
 case round =>
  obtain ⟨m, rfl, m1, hb0⟩ := hrel
  have HSr := hide (StoreAt.bel hb0 HSw.out)
  have hbw : Bel w wr := hb1w.trans hb0
  have hz0 := hb0.size
  have p0 : wr.cell? ⟨w.heap.size + 1, 0, none⟩ = some (.int .i64 1) := (hb0.box (w.heap.size + 1) hl1_1 0).trans (by rw [hk1_1]; simp)
  have p1 : wr.cell? ⟨w.heap.size + 1, 1, none⟩ = some (.int .i64 338) := (hb0.box (w.heap.size + 1) hl1_1 1).trans (by rw [hk1_1]; simp)
  have p2 : wr.cell? ⟨w.heap.size + 1, 2, none⟩ = some (.int .i64 ct) := (hb0.box (w.heap.size + 1) hl1_1 2).trans (by rw [hk1_1]; simp)
  have p3 : wr.cell? ⟨w.heap.size + 1, 3, none⟩ = some (.slice A l.length c) := (hb0.box (w.heap.size + 1) hl1_1 3).trans (by rw [hk1_1]; simp)
  have hl0 : w.heap.size < wr.heap.size := by omega
  have hl1 : w.heap.size + 1 < wr.heap.size := by omega
  have hn1 : ¬ w.heap.size + 1 = wr.heap.size := by omega
  by_cases h1 : m < l.length
  ·
   exact rq0
  ·
   exact rq5
set_option maxHeartbeats 8000000 in
theorem implGen_338y (s : TStore) (ct : Int) (l : List TValue) (hc : 1 ≤ ct ∧ ct ≤ 5000) (hl : l.length = 3) (hall : inAllB s l = true) (hval : validB s = true) : GenI s 1 338 ct l := by
 intro S S' w vs A c htab hv hR
 obtain ⟨x0, x1, x2, x3, x4, x5, x6, x7, x8, x9, x10, x11, x12⟩ := s
 have HV := hide hv
 obtain ⟨A0, c0, A1, c1, A2, c2, A3, c3, A6, c6, A7, c7, A8, c8, rfl, hlc0, hcm0, hlc1, hcm1, hlc2, hcm2, hlc3, hcm3, hlc6, hcm6, hlc7, hcm7, hlc8, hcm8, g4, g5, g10, g11, g12, HR0, HR1, HR2, HR3, HR6, HR7, HR8, HS1⟩ := TStore.opn 36 hv
 clear hv
 have HT := hide htab
 clear htab
 have HR := hide hR
 have hlen := hR.1
 have hcm := hR.2.1
 simp only [List.length_map] at hlen
 unfold maxLen at hcm
 clear hR
 have R0 := hide (show (validB (TStore.mk x0 x1 x2 x3 x4 x5 x6 x7 x8 x9 x10 x11 x12) && genB (TStore.mk x0 x1 x2 x3 x4 x5 x6 x7 x8 x9 x10 x11 x12) 1 338 ct l) = opsB 338 l by rw [hval, Bool.true_and]; exact gen_1y hall hc)
 have HALL := hide hall
 have HVL := hide hval
 have fc : decide (ct < 1) = false := decide_eq_false (by omega)
 have fd : decide (5000 < ct) = false := decide_eq_false (by omega)
 have d0 : decide ((0 : Int) < (l.length : Int)) = true := by simp; omega
 have d0n : decide (0 < l.length) = true := by simp; omega
 have i0 : 0 < l.length := by omega
 have j0 : (0 : Int) < (l.length : Int) := by omega
 have d1 : decide ((1 : Int) < (l.length : Int)) = true := by simp; omega
 have d1n : decide (1 < l.length) = true := by simp; omega
 have i1 : 1 < l.length := by omega
 have j1 : (1 : Int) < (l.length : Int) := by omega
 have d2 : decide ((2 : Int) < (l.length : Int)) = true := by simp; omega
 have d2n : decide (2 < l.length) = true := by simp; omega
 have i2 : 2 < l.length := by omega
 have j2 : (2 : Int) < (l.length : Int) := by omega
 have fl : ((l.length : Int) == 3) = true := by rw [beq_iff_eq]; omega
 have HL := hide hl
 clear hall hval hc hl
 go_enter Tryd.func22, Tryd.ntmps22
 have mkq := True.intro
 repeat (any_goals ((first | clear mkq | go_quiet (fail)); (try go_wp2_with (go_at_call 10; refine (implValid_any (TStore.mk x0 x1 x2 x3 x4 x5 x6 x7 x8 x9 x10 x11 x12) S _ _ (HT.out.on bl) (Dat.HoldVals.bel bl HV.out)).mono ?_; rintro e w1 ⟨rfl, hb1⟩; rw [HVL.out]; (have hz1 := hb1.sz; obtain ⟨hk1_0, hf1_0, hl1_0, hn1_0⟩ := hb1.lay (w.heap.size); obtain ⟨hk1_1, hf1_1, hl1_1, hn1_1⟩ := hb1.lay (w.heap.size + 1))))))
 have HSw := hide (show StoreAt w1 S w.heap.size (TStore.mk x0 x1 x2 x3 x4 x5 x6 x7 x8 x9 x10 x11 x12) from StoreAt.bel bl HS1.out)
 have hb1w : Bel w w1 := bl
 go_loopw [15] (fun v wr => ∃ m : Nat, v = .int .i64 m ∧ m ≤ l.length ∧ Bel w1 wr) (fun v _ => l.length - (intOf v).toNat)
 case atStart => exact ⟨0, rfl, by omega, Bel.refl _⟩
 case round =>
  obtain ⟨m, rfl, m1, hb0⟩ := hrel
  have HSr := hide (StoreAt.bel hb0 HSw.out)
  have hbw : Bel w wr := hb1w.trans hb0
  have hz0 := hb0.size
  have p0 : wr.cell? ⟨w.heap.size + 1, 0, none⟩ = some (.int .i64 1) := (hb0.box (w.heap.size + 1) hl1_1 0).trans (by rw [hk1_1]; simp)
  have p1 : wr.cell? ⟨w.heap.size + 1, 1, none⟩ = some (.int .i64 338) := (hb0.box (w.heap.size + 1) hl1_1 1).trans (by rw [hk1_1]; simp)
  have p2 : wr.cell? ⟨w.heap.size + 1, 2, none⟩ = some (.int .i64 ct) := (hb0.box (w.heap.size + 1) hl1_1 2).trans (by rw [hk1_1]; simp)
  have p3 : wr.cell? ⟨w.heap.size + 1, 3, none⟩ = some (.slice A l.length c) := (hb0.box (w.heap.size + 1) hl1_1 3).trans (by rw [hk1_1]; simp)
  have hl0 : w.heap.size < wr.heap.size := by omega
  have hl1 : w.heap.size + 1 < wr.heap.size := by omega
  have hn1 : ¬ w.heap.size + 1 = wr.heap.size := by omega
  by_cases h1 : m < l.length
  ·
   exact rq0
  ·
   have hd : decide ((m : Int) < (l.length : Int)) = false := by simp; omega
   (obtain ⟨b22, o22, x22_0, x22_1, x22_2, x22_3, x22_4, x22_5, hA22, hS22, hl22, hx22, hv22, g22_0, g22_1, g22_2, g22_3, g22_4, g22_5, c22_0, c22_1, c22_2, c22_3, c22_4, c22_5⟩ := TValue.at HR.out 0 (by have := HL.out; omega); subst hA22; have HV22 := hide (Dat.HoldVals.bel hbw hv22); have hh22 := hbw.box b22 hl22; have hw22 := Nat.lt_of_lt_of_le hl22 (Bel.size hbw); replace c22_0 := (hh22 _).trans c22_0; replace c22_1 := (hh22 _).trans c22_1; replace c22_2 := (hh22 _).trans c22_2; replace c22_3 := (hh22 _).trans c22_3; replace c22_4 := (hh22 _).trans c22_4; replace c22_5 := (hh22 _).trans c22_5; have HX22 := hide hx22; clear hh22 hv22 hx22 hS22; simp only [Nat.zero_mul, Nat.one_mul, Nat.add_zero, Nat.reduceMul, Nat.add_assoc, Nat.reduceAdd] at c22_0 c22_1 c22_2 c22_3 c22_4 c22_5)
   (obtain ⟨b23, o23, x23_0, x23_1, x23_2, x23_3, x23_4, x23_5, hA23, hS23, hl23, hx23, hv23, g23_0, g23_1, g23_2, g23_3, g23_4, g23_5, c23_0, c23_1, c23_2, c23_3, c23_4, c23_5⟩ := TValue.at HR.out 1 (by have := HL.out; omega); injection Option.some.inj hA23 with qb23 qo23 _; subst qb23 qo23; have HV23 := hide (Dat.HoldVals.bel hbw hv23); have hh23 := hbw.box b22 hl23; have hw23 := Nat.lt_of_lt_of_le hl23 (Bel.size hbw); replace c23_0 := (hh23 _).trans c23_0; replace c23_1 := (hh23 _).trans c23_1; replace c23_2 := (hh23 _).trans c23_2; replace c23_3 := (hh23 _).trans c23_3; replace c23_4 := (hh23 _).trans c23_4; replace c23_5 := (hh23 _).trans c23_5; have HX23 := hide hx23; clear hh23 hv23 hx23 hS23; simp only [Nat.zero_mul, Nat.one_mul, Nat.add_zero, Nat.reduceMul, Nat.add_assoc, Nat.reduceAdd] at c23_0 c23_1 c23_2 c23_3 c23_4 c23_5)
   (obtain ⟨b24, o24, x24_0, x24_1, x24_2, x24_3, x24_4, x24_5, hA24, hS24, hl24, hx24, hv24, g24_0, g24_1, g24_2, g24_3, g24_4, g24_5, c24_0, c24_1, c24_2, c24_3, c24_4, c24_5⟩ := TValue.at HR.out 2 (by have := HL.out; omega); injection Option.some.inj hA24 with qb24 qo24 _; subst qb24 qo24; have HV24 := hide (Dat.HoldVals.bel hbw hv24); have hh24 := hbw.box b22 hl24; have hw24 := Nat.lt_of_lt_of_le hl24 (Bel.size hbw); replace c24_0 := (hh24 _).trans c24_0; replace c24_1 := (hh24 _).trans c24_1; replace c24_2 := (hh24 _).trans c24_2; replace c24_3 := (hh24 _).trans c24_3; replace c24_4 := (hh24 _).trans c24_4; replace c24_5 := (hh24 _).trans c24_5; have HX24 := hide hx24; clear hh24 hv24 hx24 hS24; simp only [Nat.zero_mul, Nat.one_mul, Nat.add_zero, Nat.reduceMul, Nat.add_assoc, Nat.reduceAdd] at c24_0 c24_1 c24_2 c24_3 c24_4 c24_5)
   have hb2w : b22 < wr.heap.size := by omega
   have hne22 : ¬ b22 = wr.heap.size := by omega
   have HV0 := hide (show vAt l 0 = ⟨x22_0, x22_1, x22_2, x22_3, x22_4, x22_5⟩ by rw [vAt_get (by have := HL.out; omega), HX22.out]; rfl)
   have HV1 := hide (show vAt l 1 = ⟨x23_0, x23_1, x23_2, x23_3, x23_4, x23_5⟩ by rw [vAt_get (by have := HL.out; omega), HX23.out]; rfl)
   have HV2 := hide (show vAt l 2 = ⟨x24_0, x24_1, x24_2, x24_3, x24_4, x24_5⟩ by rw [vAt_get (by have := HL.out; omega), HX24.out]; rfl)
   have R1 := hide (R0.out.trans (show opsB 338 l = (decide (x22_0 = 1) && decide (x23_0 = 1) && decide (x24_0 = 1) && decide (x24_1 ≠ 0)) by rw [opsB_338, kinds_get3 HL.out, HV0.out, HV1.out, HV2.out]))
   by_cases ha : x22_0 = 1
   case neg =>
    exact rq15
   have f0 : (x22_0 == 1) = true := by rw [beq_iff_eq]; exact ha
   by_cases hb : x23_0 = 1
   case neg =>
    exact rq16
   have f1 : (x23_0 == 1) = true := by rw [beq_iff_eq]; exact hb
   by_cases hc : x24_0 = 1
   case neg =>
    exact rq17
   have f2 : (x24_0 == 1) = true := by rw [beq_iff_eq]; exact hc
   have RR := hide (R1.out.trans (show _ = decide (x24_1 ≠ 0) by rw [decide_eq_true ha, decide_eq_true hb, decide_eq_true hc]; rfl))
   clear ha hb hc
   by_cases hz : x24_1 = 0
   ·
    exact rq18
   ·
    exact rq19
set_option maxHeartbeats 8000000 in
theorem implGen_317n (s : TStore) (ct : Int) (l : List TValue) (hc : 1 ≤ ct ∧ ct ≤ 5000) (hl : l.length ≠ 1) (hall : inAllB s l = true) (hval : validB s = true) : GenI s 1 317 ct l := by
 intro S S' w vs A c htab hv hR
 obtain ⟨x0, x1, x2, x3, x4, x5, x6, x7, x8, x9, x10, x11, x12⟩ := s
 have HV := hide hv
 obtain ⟨A0, c0, A1, c1, A2, c2, A3, c3, A6, c6, A7, c7, A8, c8, rfl, hlc0, hcm0, hlc1, hcm1, hlc2, hcm2, hlc3, hcm3, hlc6, hcm6, hlc7, hcm7, hlc8, hcm8, g4, g5, g10, g11, g12, HR0, HR1, HR2, HR3, HR6, HR7, HR8, HS1⟩ := TStore.opn 36 hv
 clear hv
 have HT := hide htab
 clear htab
 have HR := hide hR
 have hlen := hR.1
 have hcm := hR.2.1
 simp only [List.length_map] at hlen
 unfold maxLen at hcm
 clear hR
 have RR := hide (show (validB (TStore.mk x0 x1 x2 x3 x4 x5 x6 x7 x8 x9 x10 x11 x12) && genB (TStore.mk x0 x1 x2 x3 x4 x5 x6 x7 x8 x9 x10 x11 x12) 1 317 ct l) = false by rw [hval, Bool.true_and]; rw [gen_1y hall hc, opsB_317, kinds_len (by simpa using hl)])
 have HALL := hide hall
 have HVL := hide hval
 have fc : decide (ct < 1) = false := decide_eq_false (by omega)
 have fd : decide (5000 < ct) = false := decide_eq_false (by omega)
 have fl : ((l.length : Int) == 1) = false := by rw [beq_eq_false_iff_ne]; omega
 clear hall hval hc hl
 go_enter Tryd.func22, Tryd.ntmps22
 have mkq := True.intro
 repeat (any_goals ((first | clear mkq | go_quiet (fail)); (try go_wp2_with (go_at_call 10; refine (implValid_any (TStore.mk x0 x1 x2 x3 x4 x5 x6 x7 x8 x9 x10 x11 x12) S _ _ (HT.out.on bl) (Dat.HoldVals.bel bl HV.out)).mono ?_; rintro e w1 ⟨rfl, hb1⟩; rw [HVL.out]; (have hz1 := hb1.sz; obtain ⟨hk1_0, hf1_0, hl1_0, hn1_0⟩ := hb1.lay (w.heap.size); obtain ⟨hk1_1, hf1_1, hl1_1, hn1_1⟩ := hb1.lay (w.heap.size + 1))))))
 have HSw := hide (show StoreAt w1 S w.heap.size (TStore.mk x0 x1 x2 x3 x4 x5 x6 x7 x8 x9 x10 x11 x12) from StoreAt.bel bl HS1.out)
 have hb1w : Bel w w1 := bl
 go_loopw [15] (fun v wr => ∃ m : Nat, v = .int .i64 m ∧ m ≤ l.length ∧ Bel w1 wr) (fun v _ => l.length - (intOf v).toNat)
 case atStart => exact ⟨0, rfl, by omega, Bel.refl _⟩
 case round =>
  obtain ⟨m, rfl, m1, hb0⟩ := hrel
  have HSr := hide (StoreAt.bel hb0 HSw.out)
  have hbw : Bel w wr := hb1w.trans hb0
  have hz0 := hb0.size
  have p0 : wr.cell? ⟨w.heap.size + 1, 0, none⟩ = some (.int .i64 1) := (hb0.box (w.heap.size + 1) hl1_1 0).trans (by rw [hk1_1]; simp)
  have p1 : wr.cell? ⟨w.heap.size + 1, 1, none⟩ = some (.int .i64 317) := (hb0.box (w.heap.size + 1) hl1_1 1).trans (by rw [hk1_1]; simp)
  have p2 : wr.cell? ⟨w.heap.size + 1, 2, none⟩ = some (.int .i64 ct) := (hb0.box (w.heap.size + 1) hl1_1 2).trans (by rw [hk1_1]; simp)
  have p3 : wr.cell? ⟨w.heap.size + 1, 3, none⟩ = some (.slice A l.length c) := (hb0.box (w.heap.size + 1) hl1_1 3).trans (by rw [hk1_1]; simp)
  have hl0 : w.heap.size < wr.heap.size := by omega
  have hl1 : w.heap.size + 1 < wr.heap.size := by omega
  have hn1 : ¬ w.heap.size + 1 = wr.heap.size := by omega
  by_cases h1 : m < l.length
  ·
   exact rq0
  ·
   exact rq5
set_option maxHeartbeats 8000000 in
theorem implGen_317y (s : TStore) (ct : Int) (l : List TValue) (hc : 1 ≤ ct ∧ ct ≤ 5000) (hl : l.length = 1) (hall : inAllB s l = true) (hval : validB s = true) : GenI s 1 317 ct l := by
 intro S S' w vs A c htab hv hR
 obtain ⟨x0, x1, x2, x3, x4, x5, x6, x7, x8, x9, x10, x11, x12⟩ := s
 have HV := hide hv
 obtain ⟨A0, c0, A1, c1, A2, c2, A3, c3, A6, c6, A7, c7, A8, c8, rfl, hlc0, hcm0, hlc1, hcm1, hlc2, hcm2, hlc3, hcm3, hlc6, hcm6, hlc7, hcm7, hlc8, hcm8, g4, g5, g10, g11, g12, HR0, HR1, HR2, HR3, HR6, HR7, HR8, HS1⟩ := TStore.opn 36 hv
 clear hv
 have HT := hide htab
 clear htab
 have HR := hide hR
 have hlen := hR.1
 have hcm := hR.2.1
 simp only [List.length_map] at hlen
 unfold maxLen at hcm
 clear hR
 have R0 := hide (show (validB (TStore.mk x0 x1 x2 x3 x4 x5 x6 x7 x8 x9 x10 x11 x12) && genB (TStore.mk x0 x1 x2 x3 x4 x5 x6 x7 x8 x9 x10 x11 x12) 1 317 ct l) = opsB 317 l by rw [hval, Bool.true_and]; exact gen_1y hall hc)
 have HALL := hide hall
 have HVL := hide hval
 have fc : decide (ct < 1) = false := decide_eq_false (by omega)
 have fd : decide (5000 < ct) = false := decide_eq_false (by omega)
 have d0 : decide ((0 : Int) < (l.length : Int)) = true := by simp; omega
 have d0n : decide (0 < l.length) = true := by simp; omega
 have i0 : 0 < l.length := by omega
 have j0 : (0 : Int) < (l.length : Int) := by omega
 have fl : ((l.length : Int) == 1) = true := by rw [beq_iff_eq]; omega
 have HL := hide hl
 clear hall hval hc hl
 go_enter Tryd.func22, Tryd.ntmps22
 have mkq := True.intro
 repeat (any_goals ((first | clear mkq | go_quiet (fail)); (try go_wp2_with (go_at_call 10; refine (implValid_any (TStore.mk x0 x1 x2 x3 x4 x5 x6 x7 x8 x9 x10 x11 x12) S _ _ (HT.out.on bl) (Dat.HoldVals.bel bl HV.out)).mono ?_; rintro e w1 ⟨rfl, hb1⟩; rw [HVL.out]; (have hz1 := hb1.sz; obtain ⟨hk1_0, hf1_0, hl1_0, hn1_0⟩ := hb1.lay (w.heap.size); obtain ⟨hk1_1, hf1_1, hl1_1, hn1_1⟩ := hb1.lay (w.heap.size + 1))))))
 have HSw := hide (show StoreAt w1 S w.heap.size (TStore.mk x0 x1 x2 x3 x4 x5 x6 x7 x8 x9 x10 x11 x12) from StoreAt.bel bl HS1.out)
 have hb1w : Bel w w1 := bl
 go_loopw [15] (fun v wr => ∃ m : Nat, v = .int .i64 m ∧ m ≤ l.length ∧ Bel w1 wr) (fun v _ => l.length - (intOf v).toNat)
 case atStart => exact ⟨0, rfl, by omega, Bel.refl _⟩
 case round =>
  obtain ⟨m, rfl, m1, hb0⟩ := hrel
  have HSr := hide (StoreAt.bel hb0 HSw.out)
  have hbw : Bel w wr := hb1w.trans hb0
  have hz0 := hb0.size
  have p0 : wr.cell? ⟨w.heap.size + 1, 0, none⟩ = some (.int .i64 1) := (hb0.box (w.heap.size + 1) hl1_1 0).trans (by rw [hk1_1]; simp)
  have p1 : wr.cell? ⟨w.heap.size + 1, 1, none⟩ = some (.int .i64 317) := (hb0.box (w.heap.size + 1) hl1_1 1).trans (by rw [hk1_1]; simp)
  have p2 : wr.cell? ⟨w.heap.size + 1, 2, none⟩ = some (.int .i64 ct) := (hb0.box (w.heap.size + 1) hl1_1 2).trans (by rw [hk1_1]; simp)
  have p3 : wr.cell? ⟨w.heap.size + 1, 3, none⟩ = some (.slice A l.length c) := (hb0.box (w.heap.size + 1) hl1_1 3).trans (by rw [hk1_1]; simp)
  have hl0 : w.heap.size < wr.heap.size := by omega
  have hl1 : w.heap.size + 1 < wr.heap.size := by omega
  have hn1 : ¬ w.heap.size + 1 = wr.heap.size := by omega
  by_cases h1 : m < l.length
  ·
   exact rq0
  ·
   have hd : decide ((m : Int) < (l.length : Int)) = false := by simp; omega
   (obtain ⟨b22, o22, x22_0, x22_1, x22_2, x22_3, x22_4, x22_5, hA22, hS22, hl22, hx22, hv22, g22_0, g22_1, g22_2, g22_3, g22_4, g22_5, c22_0, c22_1, c22_2, c22_3, c22_4, c22_5⟩ := TValue.at HR.out 0 (by have := HL.out; omega); subst hA22; have HV22 := hide (Dat.HoldVals.bel hbw hv22); have hh22 := hbw.box b22 hl22; have hw22 := Nat.lt_of_lt_of_le hl22 (Bel.size hbw); replace c22_0 := (hh22 _).trans c22_0; replace c22_1 := (hh22 _).trans c22_1; replace c22_2 := (hh22 _).trans c22_2; replace c22_3 := (hh22 _).trans c22_3; replace c22_4 := (hh22 _).trans c22_4; replace c22_5 := (hh22 _).trans c22_5; have HX22 := hide hx22; clear hh22 hv22 hx22 hS22; simp only [Nat.zero_mul, Nat.one_mul, Nat.add_zero, Nat.reduceMul, Nat.add_assoc, Nat.reduceAdd] at c22_0 c22_1 c22_2 c22_3 c22_4 c22_5)
   have hb2w : b22 < wr.heap.size := by omega
   have hne22 : ¬ b22 = wr.heap.size := by omega
   have HV0 := hide (show vAt l 0 = ⟨x22_0, x22_1, x22_2, x22_3, x22_4, x22_5⟩ by rw [vAt_get (by have := HL.out; omega), HX22.out]; rfl)
   have RR := hide (R0.out.trans (show opsB 317 l = (x22_0 == 5) by rw [opsB_317, kinds_get1 HL.out, HV0.out]; rfl))
   go_wp2_with (fail)
   repeat (any_goals (go_quiet (fail); (try go_wp2_with (fail))))
   all_goals
    go_returns
    exact ⟨by rw [RR.out]; first | done | rfl, bl⟩
end Go.Proofs.YtebbpcgiacckfaaDoor
