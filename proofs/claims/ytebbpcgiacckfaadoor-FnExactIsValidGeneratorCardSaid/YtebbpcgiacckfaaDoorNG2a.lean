/- Part of the proof: is a generator valid. -/
import Derived.Test.YtebbpcgiacckfaaDoorNHGenerator
import Derived.Deep.RegionHeld3
namespace Go.Proofs.YtebbpcgiacckfaaDoor
set_option linter.unusedVariables false
set_option linter.unusedSimpArgs false
set_option maxRecDepth 100000
open Go.RowKit
--%quiet
set_option maxHeartbeats 4000000 in
theorem specGen_k (s : TStore) (kd op ct : Int) (l : List TValue) (hk1 : kd ≠ 1) (hk2 : kd ≠ 2) (hall : inAllB s l = true) : GenC 56 s kd op ct l := by
 intro S S' q w A c hs hR
 have HS := hide hs
 have hq := hs.1
 have hqn : ¬ q = w.heap.size := by omega
 have HR := hide hR
 have hlen := hR.1
 have hcm := hR.2.1
 simp only [List.length_map, List.length_cons, List.length_nil, Nat.reduceAdd] at hlen
 unfold maxLen at hcm
 clear hR hs
 have HALL := hide hall
 have RR := hide (gen_2n (s := s) (kd := kd) (op := op) (ct := ct) (l := l) hk1 fun h => hk2 h.1)
 have fk1 : (kd == 1) = false := by rw [beq_eq_false_iff_ne]; omega
 have fk2 : (kd != 2) = true := by rw [bne_iff_ne]; exact hk2
 clear hall hk1 hk2
 go_enter Tryd.func56, Tryd.ntmps56
 go_wp2_with (fail)
 repeat (any_goals (go_quiet (fail); (try go_wp2_with (fail))))
 go_loopw [5] (fun v wr => ∃ m : Nat, v = .int .i64 m ∧ m ≤ l.length ∧ Bel (w.alloc (.cells #[.int .i64 kd, .int .i64 op, .int .i64 ct, .slice A l.length c] 59)) wr) (fun v _ => l.length - (intOf v).toNat)
 case atStart => exact ⟨0, rfl, by omega, Bel.refl _⟩
 case round =>
  obtain ⟨m, rfl, m1, hb0⟩ := hrel
  have hbw : Bel w wr := bl
  have hz0 := hb0.sz
  have p0 : wr.cell? ⟨w.heap.size, 0, none⟩ = some (.int .i64 kd) := (hb0.box w.heap.size (by simp) 0).trans (by simp)
  have p1 : wr.cell? ⟨w.heap.size, 1, none⟩ = some (.int .i64 op) := (hb0.box w.heap.size (by simp) 1).trans (by simp)
  have p2 : wr.cell? ⟨w.heap.size, 2, none⟩ = some (.int .i64 ct) := (hb0.box w.heap.size (by simp) 2).trans (by simp)
  have p3 : wr.cell? ⟨w.heap.size, 3, none⟩ = some (.slice A l.length c) := (hb0.box w.heap.size (by simp) 3).trans (by simp)
  have hl0 : w.heap.size < wr.heap.size := by omega
  have hqw : q < wr.heap.size := by omega
  by_cases h1 : m < l.length
  ·
   exact rq1
  ·
   exact rq8
set_option maxHeartbeats 4000000 in
theorem specGen_c (s : TStore) (op ct : Int) (l : List TValue) (hc : ct ≠ 0) (hall : inAllB s l = true) : GenC 56 s 2 op ct l := by
 intro S S' q w A c hs hR
 have HS := hide hs
 have hq := hs.1
 have hqn : ¬ q = w.heap.size := by omega
 have HR := hide hR
 have hlen := hR.1
 have hcm := hR.2.1
 simp only [List.length_map, List.length_cons, List.length_nil, Nat.reduceAdd] at hlen
 unfold maxLen at hcm
 clear hR hs
 have HALL := hide hall
 have RR := hide (gen_2n (s := s) (kd := 2) (op := op) (ct := ct) (l := l) (by decide) fun h => hc h.2.1)
 have fc : (ct != 0) = true := by rw [bne_iff_ne]; exact hc
 clear hall hc
 go_enter Tryd.func56, Tryd.ntmps56
 go_wp2_with (fail)
 repeat (any_goals (go_quiet (fail); (try go_wp2_with (fail))))
 go_loopw [5] (fun v wr => ∃ m : Nat, v = .int .i64 m ∧ m ≤ l.length ∧ Bel (w.alloc (.cells #[.int .i64 2, .int .i64 op, .int .i64 ct, .slice A l.length c] 59)) wr) (fun v _ => l.length - (intOf v).toNat)
 case atStart => exact ⟨0, rfl, by omega, Bel.refl _⟩
 case round =>
  obtain ⟨m, rfl, m1, hb0⟩ := hrel
  have hbw : Bel w wr := bl
  have hz0 := hb0.sz
  have p0 : wr.cell? ⟨w.heap.size, 0, none⟩ = some (.int .i64 2) := (hb0.box w.heap.size (by simp) 0).trans (by simp)
  have p1 : wr.cell? ⟨w.heap.size, 1, none⟩ = some (.int .i64 op) := (hb0.box w.heap.size (by simp) 1).trans (by simp)
  have p2 : wr.cell? ⟨w.heap.size, 2, none⟩ = some (.int .i64 ct) := (hb0.box w.heap.size (by simp) 2).trans (by simp)
  have p3 : wr.cell? ⟨w.heap.size, 3, none⟩ = some (.slice A l.length c) := (hb0.box w.heap.size (by simp) 3).trans (by simp)
  have hl0 : w.heap.size < wr.heap.size := by omega
  have hqw : q < wr.heap.size := by omega
  by_cases h1 : m < l.length
  ·
   exact rq1
  ·
   exact rq8
set_option maxHeartbeats 4000000 in
theorem specGen_n (s : TStore) (op : Int) (l : List TValue) (hn : l.length < 3) (hall : inAllB s l = true) : GenC 56 s 2 op 0 l := by
 intro S S' q w A c hs hR
 have HS := hide hs
 have hq := hs.1
 have hqn : ¬ q = w.heap.size := by omega
 have HR := hide hR
 have hlen := hR.1
 have hcm := hR.2.1
 simp only [List.length_map, List.length_cons, List.length_nil, Nat.reduceAdd] at hlen
 unfold maxLen at hcm
 clear hR hs
 have HALL := hide hall
 have RR := hide (gen_2n (s := s) (kd := 2) (op := op) (ct := 0) (l := l) (by decide) fun h => by have := (undo_len h.2.2).1; omega)
 have fn1 : decide ((l.length : Int) < 3) = true := by simp; omega
 have fn2 : decide (l.length < 3) = true := by simp; omega
 clear hall hn
 go_enter Tryd.func56, Tryd.ntmps56
 go_wp2_with (fail)
 repeat (any_goals (go_quiet (fail); (try go_wp2_with (fail))))
 go_loopw [5] (fun v wr => ∃ m : Nat, v = .int .i64 m ∧ m ≤ l.length ∧ Bel (w.alloc (.cells #[.int .i64 2, .int .i64 op, .int .i64 0, .slice A l.length c] 59)) wr) (fun v _ => l.length - (intOf v).toNat)
 case atStart => exact ⟨0, rfl, by omega, Bel.refl _⟩
 case round =>
  obtain ⟨m, rfl, m1, hb0⟩ := hrel
  have hbw : Bel w wr := bl
  have hz0 := hb0.sz
  have p0 : wr.cell? ⟨w.heap.size, 0, none⟩ = some (.int .i64 2) := (hb0.box w.heap.size (by simp) 0).trans (by simp)
  have p1 : wr.cell? ⟨w.heap.size, 1, none⟩ = some (.int .i64 op) := (hb0.box w.heap.size (by simp) 1).trans (by simp)
  have p2 : wr.cell? ⟨w.heap.size, 2, none⟩ = some (.int .i64 0) := (hb0.box w.heap.size (by simp) 2).trans (by simp)
  have p3 : wr.cell? ⟨w.heap.size, 3, none⟩ = some (.slice A l.length c) := (hb0.box w.heap.size (by simp) 3).trans (by simp)
  have hl0 : w.heap.size < wr.heap.size := by omega
  have hqw : q < wr.heap.size := by omega
  by_cases h1 : m < l.length
  ·
   exact rq1
  ·
   exact rq8
set_option maxHeartbeats 4000000 in
theorem specGen_e (s : TStore) (op : Int) (l : List TValue) (hn : 3 ≤ l.length) (he : l.length % 2 = 0) (hall : inAllB s l = true) : GenC 56 s 2 op 0 l := by
 intro S S' q w A c hs hR
 have HS := hide hs
 have hq := hs.1
 have hqn : ¬ q = w.heap.size := by omega
 have HR := hide hR
 have hlen := hR.1
 have hcm := hR.2.1
 simp only [List.length_map, List.length_cons, List.length_nil, Nat.reduceAdd] at hlen
 unfold maxLen at hcm
 clear hR hs
 have HALL := hide hall
 have RR := hide (gen_2n (s := s) (kd := 2) (op := op) (ct := 0) (l := l) (by decide) fun h => by have := (undo_len h.2.2).2; omega)
 have fn1 : decide ((l.length : Int) < 3) = false := by simp; omega
 have fn2 : decide (l.length < 3) = false := by simp; omega
 have HE1 := hide (show Int.tmod (l.length : Int) 2 = 0 by rw [Int.tmod_eq_emod_of_nonneg (by omega)]; omega)
 have fe1 := HE1.out
 have fe2 : (l.length : Int) % 2 = 0 := by omega
 clear hall hn he
 go_enter Tryd.func56, Tryd.ntmps56
 go_wp2_with (fail)
 repeat (any_goals (go_quiet (fail); (try go_wp2_with (fail))))
 go_loopw [5] (fun v wr => ∃ m : Nat, v = .int .i64 m ∧ m ≤ l.length ∧ Bel (w.alloc (.cells #[.int .i64 2, .int .i64 op, .int .i64 0, .slice A l.length c] 59)) wr) (fun v _ => l.length - (intOf v).toNat)
 case atStart => exact ⟨0, rfl, by omega, Bel.refl _⟩
 case round =>
  obtain ⟨m, rfl, m1, hb0⟩ := hrel
  have hbw : Bel w wr := bl
  have hz0 := hb0.sz
  have p0 : wr.cell? ⟨w.heap.size, 0, none⟩ = some (.int .i64 2) := (hb0.box w.heap.size (by simp) 0).trans (by simp)
  have p1 : wr.cell? ⟨w.heap.size, 1, none⟩ = some (.int .i64 op) := (hb0.box w.heap.size (by simp) 1).trans (by simp)
  have p2 : wr.cell? ⟨w.heap.size, 2, none⟩ = some (.int .i64 0) := (hb0.box w.heap.size (by simp) 2).trans (by simp)
  have p3 : wr.cell? ⟨w.heap.size, 3, none⟩ = some (.slice A l.length c) := (hb0.box w.heap.size (by simp) 3).trans (by simp)
  have hl0 : w.heap.size < wr.heap.size := by omega
  have hqw : q < wr.heap.size := by omega
  by_cases h1 : m < l.length
  ·
   exact rq1
  ·
   exact rq8
end Go.Proofs.YtebbpcgiacckfaaDoor
namespace Go.Proofs.YtebbpcgiacckfaaDoor
set_option linter.unusedVariables false
set_option linter.unusedSimpArgs false
set_option maxRecDepth 100000
open Go.RowKit
--%quiet
set_option maxHeartbeats 4000000 in
theorem specGen_a0 (s : TStore) (op : Int) (l : List TValue) (hn : 3 ≤ l.length) (ho : l.length % 2 = 1) (hcond : (vAt l 0).k ≠ 2) (hall : inAllB s l = true) : GenC 56 s 2 op 0 l := by
 intro S S' q w A c hs hR
 have HS := hide hs
 have hq := hs.1
 have hqn : ¬ q = w.heap.size := by omega
 have HR := hide hR
 have hlen := hR.1
 have hcm := hR.2.1
 simp only [List.length_map, List.length_cons, List.length_nil, Nat.reduceAdd] at hlen
 unfold maxLen at hcm
 clear hR hs
 have HALL := hide hall
 have fn1 : decide ((l.length : Int) < 3) = false := by simp; omega
 have fn2 : decide (l.length < 3) = false := by simp; omega
 have HE1 := hide (show Int.tmod (l.length : Int) 2 = 1 by rw [Int.tmod_eq_emod_of_nonneg (by omega)]; omega)
 have fe1 := HE1.out
 have fe2 : (l.length : Int) % 2 = 1 := by omega
 have HL := hide hn
 have d0 : decide ((0 : Int) < (l.length : Int)) = true := by simp; omega
 have d1 : decide ((1 : Int) < (l.length : Int)) = true := by simp; omega
 have d2 : decide ((2 : Int) < (l.length : Int)) = true := by simp; omega
 have d0n : decide (0 < l.length) = true := by simp; omega
 have d1n : decide (1 < l.length) = true := by simp; omega
 have d2n : decide (2 < l.length) = true := by simp; omega
 have i0 : 0 < l.length := by omega
 have i1 : 1 < l.length := by omega
 have i2 : 2 < l.length := by omega
 have j1 : (1 : Int) < (l.length : Int) := by omega
 have j2 : (2 : Int) < (l.length : Int) := by omega
 have HCO := hide hcond
 clear hall hn ho hcond
 go_enter Tryd.func56, Tryd.ntmps56
 go_wp2_with (fail)
 repeat (any_goals (go_quiet (fail); (try go_wp2_with (fail))))
 go_loopw [5] (fun v wr => ∃ m : Nat, v = .int .i64 m ∧ m ≤ l.length ∧ Bel (w.alloc (.cells #[.int .i64 2, .int .i64 op, .int .i64 0, .slice A l.length c] 59)) wr) (fun v _ => l.length - (intOf v).toNat)
 case atStart => exact ⟨0, rfl, by omega, Bel.refl _⟩
 case round =>
  obtain ⟨m, rfl, m1, hb0⟩ := hrel
  have hbw : Bel w wr := bl
  have hz0 := hb0.sz
  have p0 : wr.cell? ⟨w.heap.size, 0, none⟩ = some (.int .i64 2) := (hb0.box w.heap.size (by simp) 0).trans (by simp)
  have p1 : wr.cell? ⟨w.heap.size, 1, none⟩ = some (.int .i64 op) := (hb0.box w.heap.size (by simp) 1).trans (by simp)
  have p2 : wr.cell? ⟨w.heap.size, 2, none⟩ = some (.int .i64 0) := (hb0.box w.heap.size (by simp) 2).trans (by simp)
  have p3 : wr.cell? ⟨w.heap.size, 3, none⟩ = some (.slice A l.length c) := (hb0.box w.heap.size (by simp) 3).trans (by simp)
  have hl0 : w.heap.size < wr.heap.size := by omega
  have hqw : q < wr.heap.size := by omega
  by_cases h1 : m < l.length
  ·
   exact rq1
  ·
   have hd : decide ((m : Int) < (l.length : Int)) = false := by simp; omega
   (obtain ⟨b2, o2, x2_0, x2_1, x2_2, x2_3, x2_4, x2_5, hA2, hS2, hl2, hx2, hv2, g2_0, g2_1, g2_2, g2_3, g2_4, g2_5, c2_0, c2_1, c2_2, c2_3, c2_4, c2_5⟩ := TValue.at HR.out 0 (by have := HL.out; omega); subst hA2; have HV2 := hide (Dat.HoldVals.bel hbw hv2); have hh2 := hbw.box b2 hl2; have hw2 := Nat.lt_of_lt_of_le hl2 (Bel.size hbw); replace c2_0 := (hh2 _).trans c2_0; replace c2_1 := (hh2 _).trans c2_1; replace c2_2 := (hh2 _).trans c2_2; replace c2_3 := (hh2 _).trans c2_3; replace c2_4 := (hh2 _).trans c2_4; replace c2_5 := (hh2 _).trans c2_5; have HX2 := hide hx2; clear hh2 hv2 hx2 hS2; simp only [Nat.zero_mul, Nat.one_mul, Nat.add_zero, Nat.reduceMul, Nat.add_assoc, Nat.reduceAdd] at c2_0 c2_1 c2_2 c2_3 c2_4 c2_5)
   (obtain ⟨b3, o3, x3_0, x3_1, x3_2, x3_3, x3_4, x3_5, hA3, hS3, hl3, hx3, hv3, g3_0, g3_1, g3_2, g3_3, g3_4, g3_5, c3_0, c3_1, c3_2, c3_3, c3_4, c3_5⟩ := TValue.at HR.out 1 (by have := HL.out; omega); injection Option.some.inj hA3 with qb3 qo3 _; subst qb3 qo3; have HV3 := hide (Dat.HoldVals.bel hbw hv3); have hh3 := hbw.box b2 hl3; have hw3 := Nat.lt_of_lt_of_le hl3 (Bel.size hbw); replace c3_0 := (hh3 _).trans c3_0; replace c3_1 := (hh3 _).trans c3_1; replace c3_2 := (hh3 _).trans c3_2; replace c3_3 := (hh3 _).trans c3_3; replace c3_4 := (hh3 _).trans c3_4; replace c3_5 := (hh3 _).trans c3_5; have HX3 := hide hx3; clear hh3 hv3 hx3 hS3; simp only [Nat.zero_mul, Nat.one_mul, Nat.add_zero, Nat.reduceMul, Nat.add_assoc, Nat.reduceAdd] at c3_0 c3_1 c3_2 c3_3 c3_4 c3_5)
   (obtain ⟨b4, o4, x4_0, x4_1, x4_2, x4_3, x4_4, x4_5, hA4, hS4, hl4, hx4, hv4, g4_0, g4_1, g4_2, g4_3, g4_4, g4_5, c4_0, c4_1, c4_2, c4_3, c4_4, c4_5⟩ := TValue.at HR.out 2 (by have := HL.out; omega); injection Option.some.inj hA4 with qb4 qo4 _; subst qb4 qo4; have HV4 := hide (Dat.HoldVals.bel hbw hv4); have hh4 := hbw.box b2 hl4; have hw4 := Nat.lt_of_lt_of_le hl4 (Bel.size hbw); replace c4_0 := (hh4 _).trans c4_0; replace c4_1 := (hh4 _).trans c4_1; replace c4_2 := (hh4 _).trans c4_2; replace c4_3 := (hh4 _).trans c4_3; replace c4_4 := (hh4 _).trans c4_4; replace c4_5 := (hh4 _).trans c4_5; have HX4 := hide hx4; clear hh4 hv4 hx4 hS4; simp only [Nat.zero_mul, Nat.one_mul, Nat.add_zero, Nat.reduceMul, Nat.add_assoc, Nat.reduceAdd] at c4_0 c4_1 c4_2 c4_3 c4_4 c4_5)
   have hb2w : b2 < wr.heap.size := by omega
   have VA0 := hide (show vAt l 0 = ⟨x2_0, x2_1, x2_2, x2_3, x2_4, x2_5⟩ by rw [vAt_get (by have := HL.out; omega), HX2.out]; rfl)
   have VA1 := hide (show vAt l 1 = ⟨x3_0, x3_1, x3_2, x3_3, x3_4, x3_5⟩ by rw [vAt_get (by have := HL.out; omega), HX3.out]; rfl)
   have VA2 := hide (show vAt l 2 = ⟨x4_0, x4_1, x4_2, x4_3, x4_4, x4_5⟩ by rw [vAt_get (by have := HL.out; omega), HX4.out]; rfl)
   have hcd : x2_0 ≠ 2 := by have := HCO.out; rw [VA0.out] at this; exact this
   have RR := hide (gen_2n (s := s) (kd := 2) (op := op) (ct := 0) (l := l) (by decide) fun h => by have hh := (undo_place h.2.2).1; rw [VA0.out, VA1.out] at hh; unfold placeB at hh; simp at hh; omega)
   have f2 : (x2_0 != 2) = true := by rw [bne_iff_ne]; exact hcd
   clear hcd
   go_wp2_with (fail)
   repeat (any_goals (go_quiet (fail); (try go_wp2_with (fail))))
   all_goals (try (go_wp2_with (fail)))
   all_goals
    go_returns
    exact ⟨by rw [RR.out]; first | done | rfl, bl⟩
set_option maxHeartbeats 4000000 in
theorem specGen_a1 (s : TStore) (op : Int) (l : List TValue) (hn : 3 ≤ l.length) (ho : l.length % 2 = 1) (hcond : (vAt l 0).k = 2 ∧ (vAt l 1).k ≠ 1) (hall : inAllB s l = true) : GenC 56 s 2 op 0 l := by
 intro S S' q w A c hs hR
 have HS := hide hs
 have hq := hs.1
 have hqn : ¬ q = w.heap.size := by omega
 have HR := hide hR
 have hlen := hR.1
 have hcm := hR.2.1
 simp only [List.length_map, List.length_cons, List.length_nil, Nat.reduceAdd] at hlen
 unfold maxLen at hcm
 clear hR hs
 have HALL := hide hall
 have fn1 : decide ((l.length : Int) < 3) = false := by simp; omega
 have fn2 : decide (l.length < 3) = false := by simp; omega
 have HE1 := hide (show Int.tmod (l.length : Int) 2 = 1 by rw [Int.tmod_eq_emod_of_nonneg (by omega)]; omega)
 have fe1 := HE1.out
 have fe2 : (l.length : Int) % 2 = 1 := by omega
 have HL := hide hn
 have d0 : decide ((0 : Int) < (l.length : Int)) = true := by simp; omega
 have d1 : decide ((1 : Int) < (l.length : Int)) = true := by simp; omega
 have d2 : decide ((2 : Int) < (l.length : Int)) = true := by simp; omega
 have d0n : decide (0 < l.length) = true := by simp; omega
 have d1n : decide (1 < l.length) = true := by simp; omega
 have d2n : decide (2 < l.length) = true := by simp; omega
 have i0 : 0 < l.length := by omega
 have i1 : 1 < l.length := by omega
 have i2 : 2 < l.length := by omega
 have j1 : (1 : Int) < (l.length : Int) := by omega
 have j2 : (2 : Int) < (l.length : Int) := by omega
 have HCO := hide hcond
 clear hall hn ho hcond
 go_enter Tryd.func56, Tryd.ntmps56
 go_wp2_with (fail)
 repeat (any_goals (go_quiet (fail); (try go_wp2_with (fail))))
 go_loopw [5] (fun v wr => ∃ m : Nat, v = .int .i64 m ∧ m ≤ l.length ∧ Bel (w.alloc (.cells #[.int .i64 2, .int .i64 op, .int .i64 0, .slice A l.length c] 59)) wr) (fun v _ => l.length - (intOf v).toNat)
 case atStart => exact ⟨0, rfl, by omega, Bel.refl _⟩
 case round =>
  obtain ⟨m, rfl, m1, hb0⟩ := hrel
  have hbw : Bel w wr := bl
  have hz0 := hb0.sz
  have p0 : wr.cell? ⟨w.heap.size, 0, none⟩ = some (.int .i64 2) := (hb0.box w.heap.size (by simp) 0).trans (by simp)
  have p1 : wr.cell? ⟨w.heap.size, 1, none⟩ = some (.int .i64 op) := (hb0.box w.heap.size (by simp) 1).trans (by simp)
  have p2 : wr.cell? ⟨w.heap.size, 2, none⟩ = some (.int .i64 0) := (hb0.box w.heap.size (by simp) 2).trans (by simp)
  have p3 : wr.cell? ⟨w.heap.size, 3, none⟩ = some (.slice A l.length c) := (hb0.box w.heap.size (by simp) 3).trans (by simp)
  have hl0 : w.heap.size < wr.heap.size := by omega
  have hqw : q < wr.heap.size := by omega
  by_cases h1 : m < l.length
  ·
   exact rq1
  ·
   have hd : decide ((m : Int) < (l.length : Int)) = false := by simp; omega
   (obtain ⟨b2, o2, x2_0, x2_1, x2_2, x2_3, x2_4, x2_5, hA2, hS2, hl2, hx2, hv2, g2_0, g2_1, g2_2, g2_3, g2_4, g2_5, c2_0, c2_1, c2_2, c2_3, c2_4, c2_5⟩ := TValue.at HR.out 0 (by have := HL.out; omega); subst hA2; have HV2 := hide (Dat.HoldVals.bel hbw hv2); have hh2 := hbw.box b2 hl2; have hw2 := Nat.lt_of_lt_of_le hl2 (Bel.size hbw); replace c2_0 := (hh2 _).trans c2_0; replace c2_1 := (hh2 _).trans c2_1; replace c2_2 := (hh2 _).trans c2_2; replace c2_3 := (hh2 _).trans c2_3; replace c2_4 := (hh2 _).trans c2_4; replace c2_5 := (hh2 _).trans c2_5; have HX2 := hide hx2; clear hh2 hv2 hx2 hS2; simp only [Nat.zero_mul, Nat.one_mul, Nat.add_zero, Nat.reduceMul, Nat.add_assoc, Nat.reduceAdd] at c2_0 c2_1 c2_2 c2_3 c2_4 c2_5)
   (obtain ⟨b3, o3, x3_0, x3_1, x3_2, x3_3, x3_4, x3_5, hA3, hS3, hl3, hx3, hv3, g3_0, g3_1, g3_2, g3_3, g3_4, g3_5, c3_0, c3_1, c3_2, c3_3, c3_4, c3_5⟩ := TValue.at HR.out 1 (by have := HL.out; omega); injection Option.some.inj hA3 with qb3 qo3 _; subst qb3 qo3; have HV3 := hide (Dat.HoldVals.bel hbw hv3); have hh3 := hbw.box b2 hl3; have hw3 := Nat.lt_of_lt_of_le hl3 (Bel.size hbw); replace c3_0 := (hh3 _).trans c3_0; replace c3_1 := (hh3 _).trans c3_1; replace c3_2 := (hh3 _).trans c3_2; replace c3_3 := (hh3 _).trans c3_3; replace c3_4 := (hh3 _).trans c3_4; replace c3_5 := (hh3 _).trans c3_5; have HX3 := hide hx3; clear hh3 hv3 hx3 hS3; simp only [Nat.zero_mul, Nat.one_mul, Nat.add_zero, Nat.reduceMul, Nat.add_assoc, Nat.reduceAdd] at c3_0 c3_1 c3_2 c3_3 c3_4 c3_5)
   (obtain ⟨b4, o4, x4_0, x4_1, x4_2, x4_3, x4_4, x4_5, hA4, hS4, hl4, hx4, hv4, g4_0, g4_1, g4_2, g4_3, g4_4, g4_5, c4_0, c4_1, c4_2, c4_3, c4_4, c4_5⟩ := TValue.at HR.out 2 (by have := HL.out; omega); injection Option.some.inj hA4 with qb4 qo4 _; subst qb4 qo4; have HV4 := hide (Dat.HoldVals.bel hbw hv4); have hh4 := hbw.box b2 hl4; have hw4 := Nat.lt_of_lt_of_le hl4 (Bel.size hbw); replace c4_0 := (hh4 _).trans c4_0; replace c4_1 := (hh4 _).trans c4_1; replace c4_2 := (hh4 _).trans c4_2; replace c4_3 := (hh4 _).trans c4_3; replace c4_4 := (hh4 _).trans c4_4; replace c4_5 := (hh4 _).trans c4_5; have HX4 := hide hx4; clear hh4 hv4 hx4 hS4; simp only [Nat.zero_mul, Nat.one_mul, Nat.add_zero, Nat.reduceMul, Nat.add_assoc, Nat.reduceAdd] at c4_0 c4_1 c4_2 c4_3 c4_4 c4_5)
   have hb2w : b2 < wr.heap.size := by omega
   have VA0 := hide (show vAt l 0 = ⟨x2_0, x2_1, x2_2, x2_3, x2_4, x2_5⟩ by rw [vAt_get (by have := HL.out; omega), HX2.out]; rfl)
   have VA1 := hide (show vAt l 1 = ⟨x3_0, x3_1, x3_2, x3_3, x3_4, x3_5⟩ by rw [vAt_get (by have := HL.out; omega), HX3.out]; rfl)
   have VA2 := hide (show vAt l 2 = ⟨x4_0, x4_1, x4_2, x4_3, x4_4, x4_5⟩ by rw [vAt_get (by have := HL.out; omega), HX4.out]; rfl)
   have hcd : x2_0 = 2 ∧ x3_0 ≠ 1 := by have := HCO.out; rw [VA0.out, VA1.out] at this; exact this
   have RR := hide (gen_2n (s := s) (kd := 2) (op := op) (ct := 0) (l := l) (by decide) fun h => by have hh := (undo_place h.2.2).1; rw [VA0.out, VA1.out] at hh; unfold placeB at hh; simp at hh; omega)
   have f2 : (x2_0 != 2) = false := by rw [bne_eq_false_iff_eq]; exact hcd.1
   have f3 : (x3_0 != 1) = true := by rw [bne_iff_ne]; exact hcd.2
   clear hcd
   go_wp2_with (fail)
   repeat (any_goals (go_quiet (fail); (try go_wp2_with (fail))))
   all_goals (try (go_wp2_with (fail)))
   all_goals
    go_returns
    exact ⟨by rw [RR.out]; first | done | rfl, bl⟩
set_option maxHeartbeats 4000000 in
theorem specGen_a2 (s : TStore) (op : Int) (l : List TValue) (hn : 3 ≤ l.length) (ho : l.length % 2 = 1) (hcond : (vAt l 0).k = 2 ∧ (vAt l 1).k = 1 ∧ (vAt l 2).k ≠ 1) (hall : inAllB s l = true) : GenC 56 s 2 op 0 l := by
 intro S S' q w A c hs hR
 have HS := hide hs
 have hq := hs.1
 have hqn : ¬ q = w.heap.size := by omega
 have HR := hide hR
 have hlen := hR.1
 have hcm := hR.2.1
 simp only [List.length_map, List.length_cons, List.length_nil, Nat.reduceAdd] at hlen
 unfold maxLen at hcm
 clear hR hs
 have HALL := hide hall
 have fn1 : decide ((l.length : Int) < 3) = false := by simp; omega
 have fn2 : decide (l.length < 3) = false := by simp; omega
 have HE1 := hide (show Int.tmod (l.length : Int) 2 = 1 by rw [Int.tmod_eq_emod_of_nonneg (by omega)]; omega)
 have fe1 := HE1.out
 have fe2 : (l.length : Int) % 2 = 1 := by omega
 have HL := hide hn
 have d0 : decide ((0 : Int) < (l.length : Int)) = true := by simp; omega
 have d1 : decide ((1 : Int) < (l.length : Int)) = true := by simp; omega
 have d2 : decide ((2 : Int) < (l.length : Int)) = true := by simp; omega
 have d0n : decide (0 < l.length) = true := by simp; omega
 have d1n : decide (1 < l.length) = true := by simp; omega
 have d2n : decide (2 < l.length) = true := by simp; omega
 have i0 : 0 < l.length := by omega
 have i1 : 1 < l.length := by omega
 have i2 : 2 < l.length := by omega
 have j1 : (1 : Int) < (l.length : Int) := by omega
 have j2 : (2 : Int) < (l.length : Int) := by omega
 have HCO := hide hcond
 clear hall hn ho hcond
 go_enter Tryd.func56, Tryd.ntmps56
 go_wp2_with (fail)
 repeat (any_goals (go_quiet (fail); (try go_wp2_with (fail))))
 go_loopw [5] (fun v wr => ∃ m : Nat, v = .int .i64 m ∧ m ≤ l.length ∧ Bel (w.alloc (.cells #[.int .i64 2, .int .i64 op, .int .i64 0, .slice A l.length c] 59)) wr) (fun v _ => l.length - (intOf v).toNat)
 case atStart => exact ⟨0, rfl, by omega, Bel.refl _⟩
 case round =>
  obtain ⟨m, rfl, m1, hb0⟩ := hrel
  have hbw : Bel w wr := bl
  have hz0 := hb0.sz
  have p0 : wr.cell? ⟨w.heap.size, 0, none⟩ = some (.int .i64 2) := (hb0.box w.heap.size (by simp) 0).trans (by simp)
  have p1 : wr.cell? ⟨w.heap.size, 1, none⟩ = some (.int .i64 op) := (hb0.box w.heap.size (by simp) 1).trans (by simp)
  have p2 : wr.cell? ⟨w.heap.size, 2, none⟩ = some (.int .i64 0) := (hb0.box w.heap.size (by simp) 2).trans (by simp)
  have p3 : wr.cell? ⟨w.heap.size, 3, none⟩ = some (.slice A l.length c) := (hb0.box w.heap.size (by simp) 3).trans (by simp)
  have hl0 : w.heap.size < wr.heap.size := by omega
  have hqw : q < wr.heap.size := by omega
  by_cases h1 : m < l.length
  ·
   exact rq1
  ·
   have hd : decide ((m : Int) < (l.length : Int)) = false := by simp; omega
   (obtain ⟨b2, o2, x2_0, x2_1, x2_2, x2_3, x2_4, x2_5, hA2, hS2, hl2, hx2, hv2, g2_0, g2_1, g2_2, g2_3, g2_4, g2_5, c2_0, c2_1, c2_2, c2_3, c2_4, c2_5⟩ := TValue.at HR.out 0 (by have := HL.out; omega); subst hA2; have HV2 := hide (Dat.HoldVals.bel hbw hv2); have hh2 := hbw.box b2 hl2; have hw2 := Nat.lt_of_lt_of_le hl2 (Bel.size hbw); replace c2_0 := (hh2 _).trans c2_0; replace c2_1 := (hh2 _).trans c2_1; replace c2_2 := (hh2 _).trans c2_2; replace c2_3 := (hh2 _).trans c2_3; replace c2_4 := (hh2 _).trans c2_4; replace c2_5 := (hh2 _).trans c2_5; have HX2 := hide hx2; clear hh2 hv2 hx2 hS2; simp only [Nat.zero_mul, Nat.one_mul, Nat.add_zero, Nat.reduceMul, Nat.add_assoc, Nat.reduceAdd] at c2_0 c2_1 c2_2 c2_3 c2_4 c2_5)
   (obtain ⟨b3, o3, x3_0, x3_1, x3_2, x3_3, x3_4, x3_5, hA3, hS3, hl3, hx3, hv3, g3_0, g3_1, g3_2, g3_3, g3_4, g3_5, c3_0, c3_1, c3_2, c3_3, c3_4, c3_5⟩ := TValue.at HR.out 1 (by have := HL.out; omega); injection Option.some.inj hA3 with qb3 qo3 _; subst qb3 qo3; have HV3 := hide (Dat.HoldVals.bel hbw hv3); have hh3 := hbw.box b2 hl3; have hw3 := Nat.lt_of_lt_of_le hl3 (Bel.size hbw); replace c3_0 := (hh3 _).trans c3_0; replace c3_1 := (hh3 _).trans c3_1; replace c3_2 := (hh3 _).trans c3_2; replace c3_3 := (hh3 _).trans c3_3; replace c3_4 := (hh3 _).trans c3_4; replace c3_5 := (hh3 _).trans c3_5; have HX3 := hide hx3; clear hh3 hv3 hx3 hS3; simp only [Nat.zero_mul, Nat.one_mul, Nat.add_zero, Nat.reduceMul, Nat.add_assoc, Nat.reduceAdd] at c3_0 c3_1 c3_2 c3_3 c3_4 c3_5)
   (obtain ⟨b4, o4, x4_0, x4_1, x4_2, x4_3, x4_4, x4_5, hA4, hS4, hl4, hx4, hv4, g4_0, g4_1, g4_2, g4_3, g4_4, g4_5, c4_0, c4_1, c4_2, c4_3, c4_4, c4_5⟩ := TValue.at HR.out 2 (by have := HL.out; omega); injection Option.some.inj hA4 with qb4 qo4 _; subst qb4 qo4; have HV4 := hide (Dat.HoldVals.bel hbw hv4); have hh4 := hbw.box b2 hl4; have hw4 := Nat.lt_of_lt_of_le hl4 (Bel.size hbw); replace c4_0 := (hh4 _).trans c4_0; replace c4_1 := (hh4 _).trans c4_1; replace c4_2 := (hh4 _).trans c4_2; replace c4_3 := (hh4 _).trans c4_3; replace c4_4 := (hh4 _).trans c4_4; replace c4_5 := (hh4 _).trans c4_5; have HX4 := hide hx4; clear hh4 hv4 hx4 hS4; simp only [Nat.zero_mul, Nat.one_mul, Nat.add_zero, Nat.reduceMul, Nat.add_assoc, Nat.reduceAdd] at c4_0 c4_1 c4_2 c4_3 c4_4 c4_5)
   have hb2w : b2 < wr.heap.size := by omega
   have VA0 := hide (show vAt l 0 = ⟨x2_0, x2_1, x2_2, x2_3, x2_4, x2_5⟩ by rw [vAt_get (by have := HL.out; omega), HX2.out]; rfl)
   have VA1 := hide (show vAt l 1 = ⟨x3_0, x3_1, x3_2, x3_3, x3_4, x3_5⟩ by rw [vAt_get (by have := HL.out; omega), HX3.out]; rfl)
   have VA2 := hide (show vAt l 2 = ⟨x4_0, x4_1, x4_2, x4_3, x4_4, x4_5⟩ by rw [vAt_get (by have := HL.out; omega), HX4.out]; rfl)
   have hcd : x2_0 = 2 ∧ x3_0 = 1 ∧ x4_0 ≠ 1 := by have := HCO.out; rw [VA0.out, VA1.out, VA2.out] at this; exact this
   have RR := hide (gen_2n (s := s) (kd := 2) (op := op) (ct := 0) (l := l) (by decide) fun h => by have hh := (undo_place h.2.2).2; rw [VA2.out] at hh; simp at hh; omega)
   have f2 : (x2_0 != 2) = false := by rw [bne_eq_false_iff_eq]; exact hcd.1
   have f3 : (x3_0 != 1) = false := by rw [bne_eq_false_iff_eq]; exact hcd.2.1
   have f4 : (x4_0 != 1) = true := by rw [bne_iff_ne]; exact hcd.2.2
   clear hcd
   go_wp2_with (fail)
   repeat (any_goals (go_quiet (fail); (try go_wp2_with (fail))))
   all_goals (try (go_wp2_with (fail)))
   all_goals
    go_returns
    exact ⟨by rw [RR.out]; first | done | rfl, bl⟩
set_option maxHeartbeats 4000000 in
theorem specGen_a3 (s : TStore) (op : Int) (l : List TValue) (hn : 3 ≤ l.length) (ho : l.length % 2 = 1) (hcond : (vAt l 0).k = 2 ∧ (vAt l 1).k = 1 ∧ (vAt l 2).k = 1 ∧ ¬ (1 ≤ (vAt l 1).n ∧ (vAt l 1).n ≤ ((vAt l 0).t.size : Int) + 1)) (hall : inAllB s l = true) : GenC 56 s 2 op 0 l := by
 intro S S' q w A c hs hR
 have HS := hide hs
 have hq := hs.1
 have hqn : ¬ q = w.heap.size := by omega
 have HR := hide hR
 have hlen := hR.1
 have hcm := hR.2.1
 simp only [List.length_map, List.length_cons, List.length_nil, Nat.reduceAdd] at hlen
 unfold maxLen at hcm
 clear hR hs
 have HALL := hide hall
 have fn1 : decide ((l.length : Int) < 3) = false := by simp; omega
 have fn2 : decide (l.length < 3) = false := by simp; omega
 have HE1 := hide (show Int.tmod (l.length : Int) 2 = 1 by rw [Int.tmod_eq_emod_of_nonneg (by omega)]; omega)
 have fe1 := HE1.out
 have fe2 : (l.length : Int) % 2 = 1 := by omega
 have HL := hide hn
 have d0 : decide ((0 : Int) < (l.length : Int)) = true := by simp; omega
 have d1 : decide ((1 : Int) < (l.length : Int)) = true := by simp; omega
 have d2 : decide ((2 : Int) < (l.length : Int)) = true := by simp; omega
 have d0n : decide (0 < l.length) = true := by simp; omega
 have d1n : decide (1 < l.length) = true := by simp; omega
 have d2n : decide (2 < l.length) = true := by simp; omega
 have i0 : 0 < l.length := by omega
 have i1 : 1 < l.length := by omega
 have i2 : 2 < l.length := by omega
 have j1 : (1 : Int) < (l.length : Int) := by omega
 have j2 : (2 : Int) < (l.length : Int) := by omega
 have HCO := hide hcond
 clear hall hn ho hcond
 go_enter Tryd.func56, Tryd.ntmps56
 go_wp2_with (fail)
 repeat (any_goals (go_quiet (fail); (try go_wp2_with (fail))))
 go_loopw [5] (fun v wr => ∃ m : Nat, v = .int .i64 m ∧ m ≤ l.length ∧ Bel (w.alloc (.cells #[.int .i64 2, .int .i64 op, .int .i64 0, .slice A l.length c] 59)) wr) (fun v _ => l.length - (intOf v).toNat)
 case atStart => exact ⟨0, rfl, by omega, Bel.refl _⟩
 case round =>
  obtain ⟨m, rfl, m1, hb0⟩ := hrel
  have hbw : Bel w wr := bl
  have hz0 := hb0.sz
  have p0 : wr.cell? ⟨w.heap.size, 0, none⟩ = some (.int .i64 2) := (hb0.box w.heap.size (by simp) 0).trans (by simp)
  have p1 : wr.cell? ⟨w.heap.size, 1, none⟩ = some (.int .i64 op) := (hb0.box w.heap.size (by simp) 1).trans (by simp)
  have p2 : wr.cell? ⟨w.heap.size, 2, none⟩ = some (.int .i64 0) := (hb0.box w.heap.size (by simp) 2).trans (by simp)
  have p3 : wr.cell? ⟨w.heap.size, 3, none⟩ = some (.slice A l.length c) := (hb0.box w.heap.size (by simp) 3).trans (by simp)
  have hl0 : w.heap.size < wr.heap.size := by omega
  have hqw : q < wr.heap.size := by omega
  by_cases h1 : m < l.length
  ·
   exact rq1
  ·
   have hd : decide ((m : Int) < (l.length : Int)) = false := by simp; omega
   (obtain ⟨b2, o2, x2_0, x2_1, x2_2, x2_3, x2_4, x2_5, hA2, hS2, hl2, hx2, hv2, g2_0, g2_1, g2_2, g2_3, g2_4, g2_5, c2_0, c2_1, c2_2, c2_3, c2_4, c2_5⟩ := TValue.at HR.out 0 (by have := HL.out; omega); subst hA2; have HV2 := hide (Dat.HoldVals.bel hbw hv2); have hh2 := hbw.box b2 hl2; have hw2 := Nat.lt_of_lt_of_le hl2 (Bel.size hbw); replace c2_0 := (hh2 _).trans c2_0; replace c2_1 := (hh2 _).trans c2_1; replace c2_2 := (hh2 _).trans c2_2; replace c2_3 := (hh2 _).trans c2_3; replace c2_4 := (hh2 _).trans c2_4; replace c2_5 := (hh2 _).trans c2_5; have HX2 := hide hx2; clear hh2 hv2 hx2 hS2; simp only [Nat.zero_mul, Nat.one_mul, Nat.add_zero, Nat.reduceMul, Nat.add_assoc, Nat.reduceAdd] at c2_0 c2_1 c2_2 c2_3 c2_4 c2_5)
   (obtain ⟨b3, o3, x3_0, x3_1, x3_2, x3_3, x3_4, x3_5, hA3, hS3, hl3, hx3, hv3, g3_0, g3_1, g3_2, g3_3, g3_4, g3_5, c3_0, c3_1, c3_2, c3_3, c3_4, c3_5⟩ := TValue.at HR.out 1 (by have := HL.out; omega); injection Option.some.inj hA3 with qb3 qo3 _; subst qb3 qo3; have HV3 := hide (Dat.HoldVals.bel hbw hv3); have hh3 := hbw.box b2 hl3; have hw3 := Nat.lt_of_lt_of_le hl3 (Bel.size hbw); replace c3_0 := (hh3 _).trans c3_0; replace c3_1 := (hh3 _).trans c3_1; replace c3_2 := (hh3 _).trans c3_2; replace c3_3 := (hh3 _).trans c3_3; replace c3_4 := (hh3 _).trans c3_4; replace c3_5 := (hh3 _).trans c3_5; have HX3 := hide hx3; clear hh3 hv3 hx3 hS3; simp only [Nat.zero_mul, Nat.one_mul, Nat.add_zero, Nat.reduceMul, Nat.add_assoc, Nat.reduceAdd] at c3_0 c3_1 c3_2 c3_3 c3_4 c3_5)
   (obtain ⟨b4, o4, x4_0, x4_1, x4_2, x4_3, x4_4, x4_5, hA4, hS4, hl4, hx4, hv4, g4_0, g4_1, g4_2, g4_3, g4_4, g4_5, c4_0, c4_1, c4_2, c4_3, c4_4, c4_5⟩ := TValue.at HR.out 2 (by have := HL.out; omega); injection Option.some.inj hA4 with qb4 qo4 _; subst qb4 qo4; have HV4 := hide (Dat.HoldVals.bel hbw hv4); have hh4 := hbw.box b2 hl4; have hw4 := Nat.lt_of_lt_of_le hl4 (Bel.size hbw); replace c4_0 := (hh4 _).trans c4_0; replace c4_1 := (hh4 _).trans c4_1; replace c4_2 := (hh4 _).trans c4_2; replace c4_3 := (hh4 _).trans c4_3; replace c4_4 := (hh4 _).trans c4_4; replace c4_5 := (hh4 _).trans c4_5; have HX4 := hide hx4; clear hh4 hv4 hx4 hS4; simp only [Nat.zero_mul, Nat.one_mul, Nat.add_zero, Nat.reduceMul, Nat.add_assoc, Nat.reduceAdd] at c4_0 c4_1 c4_2 c4_3 c4_4 c4_5)
   have hb2w : b2 < wr.heap.size := by omega
   have VA0 := hide (show vAt l 0 = ⟨x2_0, x2_1, x2_2, x2_3, x2_4, x2_5⟩ by rw [vAt_get (by have := HL.out; omega), HX2.out]; rfl)
   have VA1 := hide (show vAt l 1 = ⟨x3_0, x3_1, x3_2, x3_3, x3_4, x3_5⟩ by rw [vAt_get (by have := HL.out; omega), HX3.out]; rfl)
   have VA2 := hide (show vAt l 2 = ⟨x4_0, x4_1, x4_2, x4_3, x4_4, x4_5⟩ by rw [vAt_get (by have := HL.out; omega), HX4.out]; rfl)
   have hcd : x2_0 = 2 ∧ x3_0 = 1 ∧ x4_0 = 1 ∧ ¬ (1 ≤ x3_1 ∧ x3_1 ≤ (x2_3.size : Int) + 1) := by have := HCO.out; rw [VA0.out, VA1.out, VA2.out] at this; exact this
   have RR := hide (gen_2n (s := s) (kd := 2) (op := op) (ct := 0) (l := l) (by decide) fun h => by have hh := (undo_place h.2.2).1; rw [VA0.out, VA1.out] at hh; unfold placeB at hh; simp at hh; omega)
   have f2 : (x2_0 != 2) = false := by rw [bne_eq_false_iff_eq]; exact hcd.1
   have f3 : (x3_0 != 1) = false := by rw [bne_eq_false_iff_eq]; exact hcd.2.1
   have f4 : (x4_0 != 1) = false := by rw [bne_eq_false_iff_eq]; exact hcd.2.2.1
   have HPL := hide (show (decide ((1 : Int) ≤ x3_1) && decide (x3_1 ≤ (x2_3.size : Int) + 1)) = false by have := hcd.2.2.2; simp; omega)
   have hts := g2_3
   unfold maxLen at hts
   have sm : IntKind.i64.wrap ((x2_3.size : Int) + 1) = (x2_3.size : Int) + 1 := by have h9 := well_t2 (inB_well (inAll_at HALL.out (i := 0) (by have := HL.out; omega))) (by rw [HX2.out]; exact hcd.1); rw [HX2.out] at h9; replace h9 : x2_3.size ≤ 120 := h9; rw [IntKind.wrap_i64] <;> omega
   clear hcd
   go_wp2_with (fail)
   repeat (any_goals (go_quiet (fail); (try go_wp2_with (fail))))
   refine wp_region_held_drew (S := fun w' => w'.cell? ⟨w.heap.size, 0, none⟩ = some (.int .i64 2) ∧ w'.cell? ⟨w.heap.size, 1, none⟩ = some (.int .i64 op) ∧ w'.cell? ⟨w.heap.size, 2, none⟩ = some (.int .i64 0) ∧ w'.cell? ⟨w.heap.size, 3, none⟩ = some (.slice (some ⟨b2, o2, none⟩) l.length c) ∧ w'.cell? ⟨b2, o2, none⟩ = some (.int .i64 x2_0) ∧ w'.cell? ⟨b2, o2 + 3, none⟩ = some (.string x2_3) ∧ w'.cell? ⟨b2, o2 + 6, none⟩ = some (.int .i64 x3_0) ∧ w'.cell? ⟨b2, o2 + 7, none⟩ = some (.int .i64 x3_1) ∧ w'.cell? ⟨b2, o2 + 12, none⟩ = some (.int .i64 x4_0) ∧ w'.cell? ⟨b2, o2 + 13, none⟩ = some (.int .i64 x4_1)) (by kernel_rfl) ?_ (fun hHeld => ?_)
   ·
    exact rq7
   refine tkI 0 ?_
   refine tkI 1 ?_
   refine tkI 2 ?_
   refine tkI 3 ?_
   refine tkI 4 ?_
   refine tkI 5 ?_
   refine tkI 6 ?_
   refine tkI 7 ?_
   refine tkI 8 ?_
   refine tkI 9 ?_
   refine tkI 10 ?_
   refine tkI 11 ?_
   refine tkI 12 ?_
   refine tkI 13 ?_
   refine tkI 14 ?_
   refine tkI 15 ?_
   refine tkI 16 ?_
   refine tkI 17 ?_
   refine tkI 18 ?_
   refine tkI 19 ?_
   refine tkI 20 ?_
   refine tkI 21 ?_
   refine tkI 22 ?_
   refine tkI 23 ?_
   refine tkI 24 ?_
   refine tkI 25 ?_
   refine tkI 26 ?_
   refine tkI 27 ?_
   refine tkI 28 ?_
   refine tkI 29 ?_
   refine tkI 30 ?_
   refine tkI 31 ?_
   refine tkI 32 ?_
   refine tkI 33 ?_
   refine tkI 34 ?_
   refine tkI 35 ?_
   refine tkI 36 ?_
   refine tkI 37 ?_
   refine tkI 38 ?_
   refine tkI 39 ?_
   refine tkI 40 ?_
   refine tkI 41 ?_
   refine tkI 42 ?_
   refine tkI 43 ?_
   refine tkI 44 ?_
   refine tkI 45 ?_
   refine tkI 46 ?_
   refine tkI 47 ?_
   refine tkI 48 ?_
   refine tkI 49 ?_
   refine tkI 50 ?_
   refine tkI 51 ?_
   refine tkI 52 ?_
   refine tkI 53 ?_
   refine wpAnyH_ready (rs := [54]) (by kernel_rfl) (by simp) ?_
   refine AllReadyH.cons (o := _) rfl (fun K hK => ?_) AllReadyH.nil
   go_simp
   clear hHeld
   (go_at_call 29; refine (l1InS_any _ _ _ _).mono ?_; rintro e w8 ⟨rfl, rfl⟩; rw [HPL.out])
   refine hK.out _ _ ?_ (fun hHeld => ?_)
   ·
    exact rq7
   clear hK K
   (try simp only [Act.put, List.setIfInBounds_toArray, List.set_cons_zero, List.set_cons_succ, List.getElem_toArray, List.getElem_cons_zero, List.getElem_cons_succ])
   refine tkI 55 ?_
   refine tkI 56 ?_
   refine wpAnyH_done (by kernel_rfl) ?_ _
   all_goals (try (go_wp2_with (fail)))
   all_goals
    go_returns
    exact ⟨by rw [RR.out]; first | done | rfl, bl⟩
end Go.Proofs.YtebbpcgiacckfaaDoor
