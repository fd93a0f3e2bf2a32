/- Part of the proof: is a generator valid. -/
import Derived.Test.YtebbpcgiacckfaaDoorNHGenerator
import Derived.Deep.RegionHeld3
namespace Go.Proofs.YtebbpcgiacckfaaDoor
set_option linter.unusedVariables false
set_option linter.unusedSimpArgs false
set_option maxRecDepth 100000
open Go.RowKit
--%quiet
set_option maxHeartbeats 4000000 in
theorem specGen_no (s : TStore) (kd op ct : Int) (l : List TValue) (hall : inAllB s l = false) : GenC 56 s kd op ct l := by
 intro S S' q w A c hs hR
 have HS := hide hs
 have hq := hs.1
 have hqn : ¬ q = w.heap.size := by omega
 have HR := hide hR
 have hlen := hR.1
 have hcm := hR.2.1
 simp only [List.length_map, List.length_cons, List.length_nil, Nat.reduceAdd] at hlen
 unfold maxLen at hcm
 clear hR hs
 have RR := hide (gen_in (kd := kd) (op := op) (ct := ct) hall)
 have HALL := hide hall
 clear hall
 go_enter Tryd.func56, Tryd.ntmps56
 go_wp2_with (fail)
 repeat (any_goals (go_quiet (fail); (try go_wp2_with (fail))))
 go_loopw [5] (fun v wr => ∃ m : Nat, v = .int .i64 m ∧ m ≤ l.length ∧ Hid (∀ j (hj : j < l.length), j < m → inB s l[j].v = true) ∧ Bel (w.alloc (.cells #[.int .i64 kd, .int .i64 op, .int .i64 ct, .slice A l.length c] 59)) wr) (fun v _ => l.length - (intOf v).toNat)
 case atStart => exact ⟨0, rfl, by omega, fun j _ hj => by omega, Bel.refl _⟩
 case round =>
  obtain ⟨m, rfl, m1, hm, hb0⟩ := hrel
  have hbw : Bel w wr := bl
  have hz0 := hb0.sz
  have p0 : wr.cell? ⟨w.heap.size, 0, none⟩ = some (.int .i64 kd) := (hb0.box w.heap.size (by simp) 0).trans (by simp)
  have p1 : wr.cell? ⟨w.heap.size, 1, none⟩ = some (.int .i64 op) := (hb0.box w.heap.size (by simp) 1).trans (by simp)
  have p2 : wr.cell? ⟨w.heap.size, 2, none⟩ = some (.int .i64 ct) := (hb0.box w.heap.size (by simp) 2).trans (by simp)
  have p3 : wr.cell? ⟨w.heap.size, 3, none⟩ = some (.slice A l.length c) := (hb0.box w.heap.size (by simp) 3).trans (by simp)
  have hl0 : w.heap.size < wr.heap.size := by omega
  have hqw : q < wr.heap.size := by omega
  by_cases h1 : m < l.length
  ·
   have hd : decide ((m : Int) < (l.length : Int)) = true := by simp; omega
   (obtain ⟨b1, o1, x1_0, x1_1, x1_2, x1_3, x1_4, x1_5, hA1, hS1, hl1, hx1, hv1, g1_0, g1_1, g1_2, g1_3, g1_4, g1_5, c1_0, c1_1, c1_2, c1_3, c1_4, c1_5⟩ := TValue.at HR.out m h1; subst hA1; have HV1 := hide (Dat.HoldVals.bel hbw hv1); have hh1 := hbw.box b1 hl1; have hw1 := Nat.lt_of_lt_of_le hl1 (Bel.size hbw); replace c1_0 := (hh1 _).trans c1_0; replace c1_1 := (hh1 _).trans c1_1; replace c1_2 := (hh1 _).trans c1_2; replace c1_3 := (hh1 _).trans c1_3; replace c1_4 := (hh1 _).trans c1_4; replace c1_5 := (hh1 _).trans c1_5; have HX1 := hide hx1; clear hh1 hv1 hx1 hS1)
   have hne1 : ¬ b1 = wr.heap.size := by omega
   have HD := hide (show inB s l[m].v = inB s ⟨x1_0, x1_1, x1_2, x1_3, x1_4, x1_5⟩ by rw [HX1.out]; rfl)
   cases hn : inB s ⟨x1_0, x1_1, x1_2, x1_3, x1_4, x1_5⟩
   ·
    have HN := hide hn
    clear hn
    have mkq := True.intro
    repeat (any_goals ((first | clear mkq | go_quiet (fail)); (try go_wp2_with (go_at_call 50; refine (specIn_any s ⟨x1_0, x1_1, x1_2, x1_3, x1_4, x1_5⟩ S q _ (StoreAt.bel bl HS.out) ⟨g1_0, g1_1, g1_2, g1_3, g1_4, g1_5⟩).mono ?_; rintro e w1 ⟨rfl, hb1⟩; rw [HN.out]))))
    all_goals
     go_returns
     exact ⟨by rw [RR.out]; first | done | rfl, bl⟩
   ·
    have HN := hide hn
    clear hn
    have mkq := True.intro
    repeat (any_goals ((first | clear mkq | go_quiet (fail)); (try go_wp2_with (go_at_call 50; refine (specIn_any s ⟨x1_0, x1_1, x1_2, x1_3, x1_4, x1_5⟩ S q _ (StoreAt.bel bl HS.out) ⟨g1_0, g1_1, g1_2, g1_3, g1_4, g1_5⟩).mono ?_; rintro e w1 ⟨rfl, hb1⟩; rw [HN.out]))))
    go_roundw
    case rel => exact ⟨m + 1, by go_num, by omega, fun j hj hjm => by
     by_cases e : j = m
     ·
      subst e; exact HD.out.trans HN.out
     ·
      exact hm.out j hj (by omega), bl⟩
    case measure => simp [intOf]; omega
  ·
   have hd : decide ((m : Int) < (l.length : Int)) = false := by simp; omega
   exfalso
   have := inAll_yes (s := s) (l := l) fun i hi => hm.out i hi (by omega)
   rw [HALL.out] at this; cases this
set_option maxHeartbeats 4000000 in
theorem specGen_ct (s : TStore) (op ct : Int) (l : List TValue) (hall : inAllB s l = true) (hc : ¬ (1 ≤ ct ∧ ct ≤ 5000)) : GenC 56 s 1 op ct l := by
 intro S S' q w A c hs hR
 have HS := hide hs
 have hq := hs.1
 have hqn : ¬ q = w.heap.size := by omega
 have HR := hide hR
 have hlen := hR.1
 have hcm := hR.2.1
 simp only [List.length_map, List.length_cons, List.length_nil, Nat.reduceAdd] at hlen
 unfold maxLen at hcm
 clear hR hs
 have HALL := hide hall
 have RR := hide (gen_1n (op := op) hall hc)
 have HC := hide (show (decide (1 ≤ ct) && decide (ct ≤ 5000)) = false by cases h1 : decide (1 ≤ ct) <;> cases h2 : decide (ct ≤ 5000) <;> first | rfl | (exfalso; exact hc ⟨of_decide_eq_true h1, of_decide_eq_true h2⟩))
 clear hall hc
 go_enter Tryd.func56, Tryd.ntmps56
 go_wp2_with (fail)
 repeat (any_goals (go_quiet (fail); (try go_wp2_with (fail))))
 go_loopw [5] (fun v wr => ∃ m : Nat, v = .int .i64 m ∧ m ≤ l.length ∧ Bel (w.alloc (.cells #[.int .i64 1, .int .i64 op, .int .i64 ct, .slice A l.length c] 59)) wr) (fun v _ => l.length - (intOf v).toNat)
 case atStart => exact ⟨0, rfl, by omega, Bel.refl _⟩
 case round =>
  obtain ⟨m, rfl, m1, hb0⟩ := hrel
  have hbw : Bel w wr := bl
  have hz0 := hb0.sz
  have p0 : wr.cell? ⟨w.heap.size, 0, none⟩ = some (.int .i64 1) := (hb0.box w.heap.size (by simp) 0).trans (by simp)
  have p1 : wr.cell? ⟨w.heap.size, 1, none⟩ = some (.int .i64 op) := (hb0.box w.heap.size (by simp) 1).trans (by simp)
  have p2 : wr.cell? ⟨w.heap.size, 2, none⟩ = some (.int .i64 ct) := (hb0.box w.heap.size (by simp) 2).trans (by simp)
  have p3 : wr.cell? ⟨w.heap.size, 3, none⟩ = some (.slice A l.length c) := (hb0.box w.heap.size (by simp) 3).trans (by simp)
  have hl0 : w.heap.size < wr.heap.size := by omega
  have hqw : q < wr.heap.size := by omega
  by_cases h1 : m < l.length
  ·
   exact rq1
  ·
   exact rq13
set_option maxHeartbeats 4000000 in
theorem specGen_7n (s : TStore) (ct : Int) (l : List TValue) (hall : inAllB s l = true) (hc : 1 ≤ ct ∧ ct ≤ 5000) (hl : l.length ≠ 1) : GenC 56 s 1 7 ct l := by
 intro S S' q w A c hs hR
 have HS := hide hs
 have hq := hs.1
 have hqn : ¬ q = w.heap.size := by omega
 have HR := hide hR
 have hlen := hR.1
 have hcm := hR.2.1
 simp only [List.length_map, List.length_cons, List.length_nil, Nat.reduceAdd] at hlen
 unfold maxLen at hcm
 clear hR hs
 have HALL := hide hall
 have RR := hide (show genB s 1 7 ct l = false by rw [gen_1y hall hc, opsB_7, decide_eq_false hl]; rfl)
 have HC := hide (show (decide (1 ≤ ct) && decide (ct ≤ 5000)) = true by rw [decide_eq_true hc.1, decide_eq_true hc.2]; rfl)
 have fl : ((l.length : Int) == 1) = false := by rw [beq_eq_false_iff_ne]; omega
 clear hall hc
 go_enter Tryd.func56, Tryd.ntmps56
 go_wp2_with (fail)
 repeat (any_goals (go_quiet (fail); (try go_wp2_with (fail))))
 go_loopw [5] (fun v wr => ∃ m : Nat, v = .int .i64 m ∧ m ≤ l.length ∧ Bel (w.alloc (.cells #[.int .i64 1, .int .i64 7, .int .i64 ct, .slice A l.length c] 59)) wr) (fun v _ => l.length - (intOf v).toNat)
 case atStart => exact ⟨0, rfl, by omega, Bel.refl _⟩
 case round =>
  obtain ⟨m, rfl, m1, hb0⟩ := hrel
  have hbw : Bel w wr := bl
  have hz0 := hb0.sz
  have p0 : wr.cell? ⟨w.heap.size, 0, none⟩ = some (.int .i64 1) := (hb0.box w.heap.size (by simp) 0).trans (by simp)
  have p1 : wr.cell? ⟨w.heap.size, 1, none⟩ = some (.int .i64 7) := (hb0.box w.heap.size (by simp) 1).trans (by simp)
  have p2 : wr.cell? ⟨w.heap.size, 2, none⟩ = some (.int .i64 ct) := (hb0.box w.heap.size (by simp) 2).trans (by simp)
  have p3 : wr.cell? ⟨w.heap.size, 3, none⟩ = some (.slice A l.length c) := (hb0.box w.heap.size (by simp) 3).trans (by simp)
  have hl0 : w.heap.size < wr.heap.size := by omega
  have hqw : q < wr.heap.size := by omega
  by_cases h1 : m < l.length
  ·
   exact rq1
  ·
   exact rq13
set_option maxHeartbeats 4000000 in
theorem specGen_7y (s : TStore) (ct : Int) (a : TValue) (hall : inAllB s [a] = true) (hc : 1 ≤ ct ∧ ct ≤ 5000) : GenC 56 s 1 7 ct [a] := by
 intro S S' q w A c hs hR
 have HS := hide hs
 have hq := hs.1
 have hqn : ¬ q = w.heap.size := by omega
 have HR := hide hR
 have hlen := hR.1
 have hcm := hR.2.1
 simp only [List.length_map, List.length_cons, List.length_nil, Nat.reduceAdd] at hlen
 unfold maxLen at hcm
 clear hR hs
 have HALL := hide hall
 have R0 := hide (show genB s 1 7 ct [a] = decide (a.v.k ≤ 12) by rw [gen_1y hall hc, opsB_7]; rfl)
 have HC := hide (show (decide (1 ≤ ct) && decide (ct ≤ 5000)) = true by rw [decide_eq_true hc.1, decide_eq_true hc.2]; rfl)
 clear hall hc
 go_enter Tryd.func56, Tryd.ntmps56
 go_wp2_with (fail)
 repeat (any_goals (go_quiet (fail); (try go_wp2_with (fail))))
 go_loopw [5] (fun v wr => ∃ m : Nat, v = .int .i64 m ∧ m ≤ 1 ∧ Bel (w.alloc (.cells #[.int .i64 1, .int .i64 7, .int .i64 ct, .slice A 1 c] 59)) wr) (fun v _ => 1 - (intOf v).toNat)
 case atStart => exact ⟨0, rfl, by omega, Bel.refl _⟩
 case round =>
  obtain ⟨m, rfl, m1, hb0⟩ := hrel
  have hbw : Bel w wr := bl
  have hz0 := hb0.sz
  have p0 : wr.cell? ⟨w.heap.size, 0, none⟩ = some (.int .i64 1) := (hb0.box w.heap.size (by simp) 0).trans (by simp)
  have p1 : wr.cell? ⟨w.heap.size, 1, none⟩ = some (.int .i64 7) := (hb0.box w.heap.size (by simp) 1).trans (by simp)
  have p2 : wr.cell? ⟨w.heap.size, 2, none⟩ = some (.int .i64 ct) := (hb0.box w.heap.size (by simp) 2).trans (by simp)
  have p3 : wr.cell? ⟨w.heap.size, 3, none⟩ = some (.slice A 1 c) := (hb0.box w.heap.size (by simp) 3).trans (by simp)
  have hl0 : w.heap.size < wr.heap.size := by omega
  have hqw : q < wr.heap.size := by omega
  by_cases h1 : m < 1
  ·
   exact rq9
  ·
   have hd : decide ((m : Int) < (1 : Int)) = false := by simp; omega
   (obtain ⟨b2, o2, x2_0, x2_1, x2_2, x2_3, x2_4, x2_5, hA2, hS2, hl2, hx2, hv2, g2_0, g2_1, g2_2, g2_3, g2_4, g2_5, c2_0, c2_1, c2_2, c2_3, c2_4, c2_5⟩ := TValue.at HR.out 0 (by simp); subst hA2; have HV2 := hide (Dat.HoldVals.bel hbw hv2); have hh2 := hbw.box b2 hl2; have hw2 := Nat.lt_of_lt_of_le hl2 (Bel.size hbw); replace c2_0 := (hh2 _).trans c2_0; replace c2_1 := (hh2 _).trans c2_1; replace c2_2 := (hh2 _).trans c2_2; replace c2_3 := (hh2 _).trans c2_3; replace c2_4 := (hh2 _).trans c2_4; replace c2_5 := (hh2 _).trans c2_5; have HX2 := hide hx2; clear hh2 hv2 hx2 hS2; simp only [Nat.zero_mul, Nat.one_mul, Nat.add_zero, Nat.reduceMul, Nat.add_assoc, Nat.reduceAdd] at c2_0 c2_1 c2_2 c2_3 c2_4 c2_5)
   have hne2 : ¬ b2 = wr.heap.size := by omega
   have hb2w : b2 < wr.heap.size := by omega
   have RR := hide (show genB s 1 7 ct [a] = decide (x2_0 ≤ 12) by rw [R0.out, show a = _ from HX2.out]; rfl)
   have mkq := True.intro
   repeat (any_goals ((first | clear mkq | go_quiet (fail)); (try go_wp2_with (go_at_call 29; refine (l1InS_any _ _ _ _).mono ?_; rintro e w8 ⟨rfl, rfl⟩; rw [HC.out]))))
   all_goals
    go_returns
    exact ⟨by rw [RR.out]; first | done | rfl, bl⟩
set_option maxHeartbeats 4000000 in
theorem specGen_72n (s : TStore) (ct : Int) (l : List TValue) (hall : inAllB s l = true) (hc : 1 ≤ ct ∧ ct ≤ 5000) (hk : kindsB l [1, 1, 1] = false) : GenC 56 s 1 72 ct l := by
 intro S S' q w A c hs hR
 have HS := hide hs
 have hq := hs.1
 have hqn : ¬ q = w.heap.size := by omega
 have HR := hide hR
 have hlen := hR.1
 have hcm := hR.2.1
 simp only [List.length_map, List.length_cons, List.length_nil, Nat.reduceAdd] at hlen
 unfold maxLen at hcm
 clear hR hs
 have HALL := hide hall
 have RR := hide (show genB s 1 72 ct l = false by rw [gen_1y hall hc, opsB_72, hk]; rfl)
 have HC := hide (show (decide (1 ≤ ct) && decide (ct ≤ 5000)) = true by rw [decide_eq_true hc.1, decide_eq_true hc.2]; rfl)
 have HKB := hide hk
 clear hall hc hk
 go_enter Tryd.func56, Tryd.ntmps56
 go_wp2_with (fail)
 repeat (any_goals (go_quiet (fail); (try go_wp2_with (fail))))
 go_loopw [5] (fun v wr => ∃ m : Nat, v = .int .i64 m ∧ m ≤ l.length ∧ Bel (w.alloc (.cells #[.int .i64 1, .int .i64 72, .int .i64 ct, .slice A l.length c] 59)) wr) (fun v _ => l.length - (intOf v).toNat)
 case atStart => exact ⟨0, rfl, by omega, Bel.refl _⟩
 case round =>
  obtain ⟨m, rfl, m1, hb0⟩ := hrel
  have hbw : Bel w wr := bl
  have hz0 := hb0.sz
  have p0 : wr.cell? ⟨w.heap.size, 0, none⟩ = some (.int .i64 1) := (hb0.box w.heap.size (by simp) 0).trans (by simp)
  have p1 : wr.cell? ⟨w.heap.size, 1, none⟩ = some (.int .i64 72) := (hb0.box w.heap.size (by simp) 1).trans (by simp)
  have p2 : wr.cell? ⟨w.heap.size, 2, none⟩ = some (.int .i64 ct) := (hb0.box w.heap.size (by simp) 2).trans (by simp)
  have p3 : wr.cell? ⟨w.heap.size, 3, none⟩ = some (.slice A l.length c) := (hb0.box w.heap.size (by simp) 3).trans (by simp)
  have hl0 : w.heap.size < wr.heap.size := by omega
  have hqw : q < wr.heap.size := by omega
  by_cases h1 : m < l.length
  ·
   exact rq1
  ·
   have hd : decide ((m : Int) < (l.length : Int)) = false := by simp; omega
   have mkq := True.intro
   repeat (any_goals ((first | clear mkq | go_quiet (fail)); (try go_wp2_with (first | (go_at_call 29; refine (l1InS_any _ _ _ _).mono ?_; rintro e w8 ⟨rfl, rfl⟩; rw [HC.out]) | (go_at_call 86; refine (kinds_any 1 72 ct l [1, 1, 1] S' _ _ c wr.heap.size (Row.bel bl HR.out) (by simp) (by intro j hj; have h3 : j = 0 ∨ j = 1 ∨ j = 2 := (by simp at hj; omega); rcases h3 with rfl | rfl | rfl <;> simp) (by decide)).mono ?_; rintro e wk ⟨rfl, hbk⟩; rw [HKB.out]; (have hzk := hbk.sz; obtain ⟨hkk_0, hfk_0, hlk_0, hnk_0⟩ := hbk.lay (w.heap.size); obtain ⟨hkk_1, hfk_1, hlk_1, hnk_1⟩ := hbk.lay (q); obtain ⟨hkk_2, hfk_2, hlk_2, hnk_2⟩ := hbk.lay (wr.heap.size)))))))
   all_goals
    go_returns
    exact ⟨by rw [RR.out]; first | done | rfl, bl⟩
set_option maxHeartbeats 4000000 in
theorem specGen_72y (s : TStore) (ct : Int) (a b c0 : TValue) (hall : inAllB s [a, b, c0] = true) (hc : 1 ≤ ct ∧ ct ≤ 5000) (hk : kindsB [a, b, c0] [1, 1, 1] = true) : GenC 56 s 1 72 ct [a, b, c0] := by
 intro S S' q w A c hs hR
 have HS := hide hs
 have hq := hs.1
 have hqn : ¬ q = w.heap.size := by omega
 have HR := hide hR
 have hlen := hR.1
 have hcm := hR.2.1
 simp only [List.length_map, List.length_cons, List.length_nil, Nat.reduceAdd] at hlen
 unfold maxLen at hcm
 clear hR hs
 have HALL := hide hall
 have R0 := hide (show genB s 1 72 ct [a, b, c0] = decide (c0.v.n ≠ 0) by rw [gen_1y hall hc, opsB_72, hk, Bool.true_and, vAt_2])
 have HC := hide (show (decide (1 ≤ ct) && decide (ct ≤ 5000)) = true by rw [decide_eq_true hc.1, decide_eq_true hc.2]; rfl)
 have HKB := hide hk
 clear hall hc hk
 go_enter Tryd.func56, Tryd.ntmps56
 go_wp2_with (fail)
 repeat (any_goals (go_quiet (fail); (try go_wp2_with (fail))))
 go_loopw [5] (fun v wr => ∃ m : Nat, v = .int .i64 m ∧ m ≤ 3 ∧ Bel (w.alloc (.cells #[.int .i64 1, .int .i64 72, .int .i64 ct, .slice A 3 c] 59)) wr) (fun v _ => 3 - (intOf v).toNat)
 case atStart => exact ⟨0, rfl, by omega, Bel.refl _⟩
 case round =>
  obtain ⟨m, rfl, m1, hb0⟩ := hrel
  have hbw : Bel w wr := bl
  have hz0 := hb0.sz
  have p0 : wr.cell? ⟨w.heap.size, 0, none⟩ = some (.int .i64 1) := (hb0.box w.heap.size (by simp) 0).trans (by simp)
  have p1 : wr.cell? ⟨w.heap.size, 1, none⟩ = some (.int .i64 72) := (hb0.box w.heap.size (by simp) 1).trans (by simp)
  have p2 : wr.cell? ⟨w.heap.size, 2, none⟩ = some (.int .i64 ct) := (hb0.box w.heap.size (by simp) 2).trans (by simp)
  have p3 : wr.cell? ⟨w.heap.size, 3, none⟩ = some (.slice A 3 c) := (hb0.box w.heap.size (by simp) 3).trans (by simp)
  have hl0 : w.heap.size < wr.heap.size := by omega
  have hqw : q < wr.heap.size := by omega
  by_cases h1 : m < 3
  ·
   exact rq3
  ·
   have hd : decide ((m : Int) < (3 : Int)) = false := by simp; omega
   (obtain ⟨b2, o2, x2_0, x2_1, x2_2, x2_3, x2_4, x2_5, hA2, hS2, hl2, hx2, hv2, g2_0, g2_1, g2_2, g2_3, g2_4, g2_5, c2_0, c2_1, c2_2, c2_3, c2_4, c2_5⟩ := TValue.at HR.out 0 (by simp); subst hA2; have HV2 := hide (Dat.HoldVals.bel hbw hv2); have hh2 := hbw.box b2 hl2; have hw2 := Nat.lt_of_lt_of_le hl2 (Bel.size hbw); replace c2_0 := (hh2 _).trans c2_0; replace c2_1 := (hh2 _).trans c2_1; replace c2_2 := (hh2 _).trans c2_2; replace c2_3 := (hh2 _).trans c2_3; replace c2_4 := (hh2 _).trans c2_4; replace c2_5 := (hh2 _).trans c2_5; have HX2 := hide hx2; clear hh2 hv2 hx2 hS2; simp only [Nat.zero_mul, Nat.one_mul, Nat.add_zero, Nat.reduceMul, Nat.add_assoc, Nat.reduceAdd] at c2_0 c2_1 c2_2 c2_3 c2_4 c2_5)
   (obtain ⟨b3, o3, x3_0, x3_1, x3_2, x3_3, x3_4, x3_5, hA3, hS3, hl3, hx3, hv3, g3_0, g3_1, g3_2, g3_3, g3_4, g3_5, c3_0, c3_1, c3_2, c3_3, c3_4, c3_5⟩ := TValue.at HR.out 1 (by simp); injection Option.some.inj hA3 with qb3 qo3 _; subst qb3 qo3; have HV3 := hide (Dat.HoldVals.bel hbw hv3); have hh3 := hbw.box b2 hl3; have hw3 := Nat.lt_of_lt_of_le hl3 (Bel.size hbw); replace c3_0 := (hh3 _).trans c3_0; replace c3_1 := (hh3 _).trans c3_1; replace c3_2 := (hh3 _).trans c3_2; replace c3_3 := (hh3 _).trans c3_3; replace c3_4 := (hh3 _).trans c3_4; replace c3_5 := (hh3 _).trans c3_5; have HX3 := hide hx3; clear hh3 hv3 hx3 hS3; simp only [Nat.zero_mul, Nat.one_mul, Nat.add_zero, Nat.reduceMul, Nat.add_assoc, Nat.reduceAdd] at c3_0 c3_1 c3_2 c3_3 c3_4 c3_5)
   (obtain ⟨b4, o4, x4_0, x4_1, x4_2, x4_3, x4_4, x4_5, hA4, hS4, hl4, hx4, hv4, g4_0, g4_1, g4_2, g4_3, g4_4, g4_5, c4_0, c4_1, c4_2, c4_3, c4_4, c4_5⟩ := TValue.at HR.out 2 (by simp); injection Option.some.inj hA4 with qb4 qo4 _; subst qb4 qo4; have HV4 := hide (Dat.HoldVals.bel hbw hv4); have hh4 := hbw.box b2 hl4; have hw4 := Nat.lt_of_lt_of_le hl4 (Bel.size hbw); replace c4_0 := (hh4 _).trans c4_0; replace c4_1 := (hh4 _).trans c4_1; replace c4_2 := (hh4 _).trans c4_2; replace c4_3 := (hh4 _).trans c4_3; replace c4_4 := (hh4 _).trans c4_4; replace c4_5 := (hh4 _).trans c4_5; have HX4 := hide hx4; clear hh4 hv4 hx4 hS4; simp only [Nat.zero_mul, Nat.one_mul, Nat.add_zero, Nat.reduceMul, Nat.add_assoc, Nat.reduceAdd] at c4_0 c4_1 c4_2 c4_3 c4_4 c4_5)
   have hne2 : ¬ b2 = wr.heap.size := by omega
   have hb2w : b2 < wr.heap.size := by omega
   obtain rfl : c0 = .mk x4_0 x4_1 x4_2 x4_3 x4_4 x4_5 := HX4.out
   have RR := hide (show genB s 1 72 ct [a, b, .mk x4_0 x4_1 x4_2 x4_3 x4_4 x4_5] = decide (x4_1 ≠ 0) from R0.out)
   by_cases hz : x4_1 = 0
   ·
    have RR2 := hide (RR.out.trans (decide_eq_false (by omega)))
    have fz : (x4_1 != 0) = false := by rw [bne_eq_false_iff_eq]; exact hz
    clear hz
    have mkq := True.intro
    repeat (any_goals ((first | clear mkq | go_quiet (fail)); (try go_wp2_with (first | (go_at_call 29; refine (l1InS_any _ _ _ _).mono ?_; rintro e w8 ⟨rfl, rfl⟩; rw [HC.out]) | (go_at_call 86; refine (kinds_any 1 72 ct [a, b, .mk x4_0 x4_1 x4_2 x4_3 x4_4 x4_5] [1, 1, 1] S' _ _ c wr.heap.size (Row.bel bl HR.out) (by simp) (by intro j hj; have h3 : j = 0 ∨ j = 1 ∨ j = 2 := (by simp at hj; omega); rcases h3 with rfl | rfl | rfl <;> simp) (by decide)).mono ?_; rintro e wk ⟨rfl, hbk⟩; rw [HKB.out]; (have hzk := hbk.sz; obtain ⟨hkk_0, hfk_0, hlk_0, hnk_0⟩ := hbk.lay (w.heap.size); obtain ⟨hkk_1, hfk_1, hlk_1, hnk_1⟩ := hbk.lay (q); obtain ⟨hkk_2, hfk_2, hlk_2, hnk_2⟩ := hbk.lay (wr.heap.size); obtain ⟨hkk_3, hfk_3, hlk_3, hnk_3⟩ := hbk.lay (b2)))))))
    all_goals
     go_returns
     exact ⟨by rw [RR2.out]; first | done | rfl, bl⟩
   ·
    have RR2 := hide (RR.out.trans (decide_eq_true hz))
    have fz : (x4_1 != 0) = true := by rw [bne_iff_ne]; exact hz
    clear hz
    have mkq := True.intro
    repeat (any_goals ((first | clear mkq | go_quiet (fail)); (try go_wp2_with (first | (go_at_call 29; refine (l1InS_any _ _ _ _).mono ?_; rintro e w8 ⟨rfl, rfl⟩; rw [HC.out]) | (go_at_call 86; refine (kinds_any 1 72 ct [a, b, .mk x4_0 x4_1 x4_2 x4_3 x4_4 x4_5] [1, 1, 1] S' _ _ c wr.heap.size (Row.bel bl HR.out) (by simp) (by intro j hj; have h3 : j = 0 ∨ j = 1 ∨ j = 2 := (by simp at hj; omega); rcases h3 with rfl | rfl | rfl <;> simp) (by decide)).mono ?_; rintro e wk ⟨rfl, hbk⟩; rw [HKB.out]; (have hzk := hbk.sz; obtain ⟨hkk_0, hfk_0, hlk_0, hnk_0⟩ := hbk.lay (w.heap.size); obtain ⟨hkk_1, hfk_1, hlk_1, hnk_1⟩ := hbk.lay (q); obtain ⟨hkk_2, hfk_2, hlk_2, hnk_2⟩ := hbk.lay (wr.heap.size); obtain ⟨hkk_3, hfk_3, hlk_3, hnk_3⟩ := hbk.lay (b2)))))))
    all_goals
     go_returns
     exact ⟨by rw [RR2.out]; first | done | rfl, bl⟩
set_option maxHeartbeats 4000000 in
theorem specGen_338n (s : TStore) (ct : Int) (l : List TValue) (hall : inAllB s l = true) (hc : 1 ≤ ct ∧ ct ≤ 5000) (hk : kindsB l [1, 1, 1] = false) : GenC 56 s 1 338 ct l := by
 intro S S' q w A c hs hR
 have HS := hide hs
 have hq := hs.1
 have hqn : ¬ q = w.heap.size := by omega
 have HR := hide hR
 have hlen := hR.1
 have hcm := hR.2.1
 simp only [List.length_map, List.length_cons, List.length_nil, Nat.reduceAdd] at hlen
 unfold maxLen at hcm
 clear hR hs
 have HALL := hide hall
 have RR := hide (show genB s 1 338 ct l = false by rw [gen_1y hall hc, opsB_338, hk]; rfl)
 have HC := hide (show (decide (1 ≤ ct) && decide (ct ≤ 5000)) = true by rw [decide_eq_true hc.1, decide_eq_true hc.2]; rfl)
 have HKB := hide hk
 clear hall hc hk
 go_enter Tryd.func56, Tryd.ntmps56
 go_wp2_with (fail)
 repeat (any_goals (go_quiet (fail); (try go_wp2_with (fail))))
 go_loopw [5] (fun v wr => ∃ m : Nat, v = .int .i64 m ∧ m ≤ l.length ∧ Bel (w.alloc (.cells #[.int .i64 1, .int .i64 338, .int .i64 ct, .slice A l.length c] 59)) wr) (fun v _ => l.length - (intOf v).toNat)
 case atStart => exact ⟨0, rfl, by omega, Bel.refl _⟩
 case round =>
  obtain ⟨m, rfl, m1, hb0⟩ := hrel
  have hbw : Bel w wr := bl
  have hz0 := hb0.sz
  have p0 : wr.cell? ⟨w.heap.size, 0, none⟩ = some (.int .i64 1) := (hb0.box w.heap.size (by simp) 0).trans (by simp)
  have p1 : wr.cell? ⟨w.heap.size, 1, none⟩ = some (.int .i64 338) := (hb0.box w.heap.size (by simp) 1).trans (by simp)
  have p2 : wr.cell? ⟨w.heap.size, 2, none⟩ = some (.int .i64 ct) := (hb0.box w.heap.size (by simp) 2).trans (by simp)
  have p3 : wr.cell? ⟨w.heap.size, 3, none⟩ = some (.slice A l.length c) := (hb0.box w.heap.size (by simp) 3).trans (by simp)
  have hl0 : w.heap.size < wr.heap.size := by omega
  have hqw : q < wr.heap.size := by omega
  by_cases h1 : m < l.length
  ·
   exact rq1
  ·
   have hd : decide ((m : Int) < (l.length : Int)) = false := by simp; omega
   have mkq := True.intro
   repeat (any_goals ((first | clear mkq | go_quiet (fail)); (try go_wp2_with (first | (go_at_call 29; refine (l1InS_any _ _ _ _).mono ?_; rintro e w8 ⟨rfl, rfl⟩; rw [HC.out]) | (go_at_call 86; refine (kinds_any 1 338 ct l [1, 1, 1] S' _ _ c wr.heap.size (Row.bel bl HR.out) (by simp) (by intro j hj; have h3 : j = 0 ∨ j = 1 ∨ j = 2 := (by simp at hj; omega); rcases h3 with rfl | rfl | rfl <;> simp) (by decide)).mono ?_; rintro e wk ⟨rfl, hbk⟩; rw [HKB.out]; (have hzk := hbk.sz; obtain ⟨hkk_0, hfk_0, hlk_0, hnk_0⟩ := hbk.lay (w.heap.size); obtain ⟨hkk_1, hfk_1, hlk_1, hnk_1⟩ := hbk.lay (q); obtain ⟨hkk_2, hfk_2, hlk_2, hnk_2⟩ := hbk.lay (wr.heap.size)))))))
   all_goals
    go_returns
    exact ⟨by rw [RR.out]; first | done | rfl, bl⟩
set_option maxHeartbeats 4000000 in
theorem specGen_338y (s : TStore) (ct : Int) (a b c0 : TValue) (hall : inAllB s [a, b, c0] = true) (hc : 1 ≤ ct ∧ ct ≤ 5000) (hk : kindsB [a, b, c0] [1, 1, 1] = true) : GenC 56 s 1 338 ct [a, b, c0] := by
 intro S S' q w A c hs hR
 have HS := hide hs
 have hq := hs.1
 have hqn : ¬ q = w.heap.size := by omega
 have HR := hide hR
 have hlen := hR.1
 have hcm := hR.2.1
 simp only [List.length_map, List.length_cons, List.length_nil, Nat.reduceAdd] at hlen
 unfold maxLen at hcm
 clear hR hs
 have HALL := hide hall
 have R0 := hide (show genB s 1 338 ct [a, b, c0] = decide (c0.v.n ≠ 0) by rw [gen_1y hall hc, opsB_338, hk, Bool.true_and, vAt_2])
 have HC := hide (show (decide (1 ≤ ct) && decide (ct ≤ 5000)) = true by rw [decide_eq_true hc.1, decide_eq_true hc.2]; rfl)
 have HKB := hide hk
 clear hall hc hk
 go_enter Tryd.func56, Tryd.ntmps56
 go_wp2_with (fail)
 repeat (any_goals (go_quiet (fail); (try go_wp2_with (fail))))
 go_loopw [5] (fun v wr => ∃ m : Nat, v = .int .i64 m ∧ m ≤ 3 ∧ Bel (w.alloc (.cells #[.int .i64 1, .int .i64 338, .int .i64 ct, .slice A 3 c] 59)) wr) (fun v _ => 3 - (intOf v).toNat)
 case atStart => exact ⟨0, rfl, by omega, Bel.refl _⟩
 case round =>
  obtain ⟨m, rfl, m1, hb0⟩ := hrel
  have hbw : Bel w wr := bl
  have hz0 := hb0.sz
  have p0 : wr.cell? ⟨w.heap.size, 0, none⟩ = some (.int .i64 1) := (hb0.box w.heap.size (by simp) 0).trans (by simp)
  have p1 : wr.cell? ⟨w.heap.size, 1, none⟩ = some (.int .i64 338) := (hb0.box w.heap.size (by simp) 1).trans (by simp)
  have p2 : wr.cell? ⟨w.heap.size, 2, none⟩ = some (.int .i64 ct) := (hb0.box w.heap.size (by simp) 2).trans (by simp)
  have p3 : wr.cell? ⟨w.heap.size, 3, none⟩ = some (.slice A 3 c) := (hb0.box w.heap.size (by simp) 3).trans (by simp)
  have hl0 : w.heap.size < wr.heap.size := by omega
  have hqw : q < wr.heap.size := by omega
  by_cases h1 : m < 3
  ·
   exact rq3
  ·
   have hd : decide ((m : Int) < (3 : Int)) = false := by simp; omega
   (obtain ⟨b2, o2, x2_0, x2_1, x2_2, x2_3, x2_4, x2_5, hA2, hS2, hl2, hx2, hv2, g2_0, g2_1, g2_2, g2_3, g2_4, g2_5, c2_0, c2_1, c2_2, c2_3, c2_4, c2_5⟩ := TValue.at HR.out 0 (by simp); subst hA2; have HV2 := hide (Dat.HoldVals.bel hbw hv2); have hh2 := hbw.box b2 hl2; have hw2 := Nat.lt_of_lt_of_le hl2 (Bel.size hbw); replace c2_0 := (hh2 _).trans c2_0; replace c2_1 := (hh2 _).trans c2_1; replace c2_2 := (hh2 _).trans c2_2; replace c2_3 := (hh2 _).trans c2_3; replace c2_4 := (hh2 _).trans c2_4; replace c2_5 := (hh2 _).trans c2_5; have HX2 := hide hx2; clear hh2 hv2 hx2 hS2; simp only [Nat.zero_mul, Nat.one_mul, Nat.add_zero, Nat.reduceMul, Nat.add_assoc, Nat.reduceAdd] at c2_0 c2_1 c2_2 c2_3 c2_4 c2_5)
   (obtain ⟨b3, o3, x3_0, x3_1, x3_2, x3_3, x3_4, x3_5, hA3, hS3, hl3, hx3, hv3, g3_0, g3_1, g3_2, g3_3, g3_4, g3_5, c3_0, c3_1, c3_2, c3_3, c3_4, c3_5⟩ := TValue.at HR.out 1 (by simp); injection Option.some.inj hA3 with qb3 qo3 _; subst qb3 qo3; have HV3 := hide (Dat.HoldVals.bel hbw hv3); have hh3 := hbw.box b2 hl3; have hw3 := Nat.lt_of_lt_of_le hl3 (Bel.size hbw); replace c3_0 := (hh3 _).trans c3_0; replace c3_1 := (hh3 _).trans c3_1; replace c3_2 := (hh3 _).trans c3_2; replace c3_3 := (hh3 _).trans c3_3; replace c3_4 := (hh3 _).trans c3_4; replace c3_5 := (hh3 _).trans c3_5; have HX3 := hide hx3; clear hh3 hv3 hx3 hS3; simp only [Nat.zero_mul, Nat.one_mul, Nat.add_zero, Nat.reduceMul, Nat.add_assoc, Nat.reduceAdd] at c3_0 c3_1 c3_2 c3_3 c3_4 c3_5)
   (obtain ⟨b4, o4, x4_0, x4_1, x4_2, x4_3, x4_4, x4_5, hA4, hS4, hl4, hx4, hv4, g4_0, g4_1, g4_2, g4_3, g4_4, g4_5, c4_0, c4_1, c4_2, c4_3, c4_4, c4_5⟩ := TValue.at HR.out 2 (by simp); injection Option.some.inj hA4 with qb4 qo4 _; subst qb4 qo4; have HV4 := hide (Dat.HoldVals.bel hbw hv4); have hh4 := hbw.box b2 hl4; have hw4 := Nat.lt_of_lt_of_le hl4 (Bel.size hbw); replace c4_0 := (hh4 _).trans c4_0; replace c4_1 := (hh4 _).trans c4_1; replace c4_2 := (hh4 _).trans c4_2; replace c4_3 := (hh4 _).trans c4_3; replace c4_4 := (hh4 _).trans c4_4; replace c4_5 := (hh4 _).trans c4_5; have HX4 := hide hx4; clear hh4 hv4 hx4 hS4; simp only [Nat.zero_mul, Nat.one_mul, Nat.add_zero, Nat.reduceMul, Nat.add_assoc, Nat.reduceAdd] at c4_0 c4_1 c4_2 c4_3 c4_4 c4_5)
   have hne2 : ¬ b2 = wr.heap.size := by omega
   have hb2w : b2 < wr.heap.size := by omega
   obtain rfl : c0 = .mk x4_0 x4_1 x4_2 x4_3 x4_4 x4_5 := HX4.out
   have RR := hide (show genB s 1 338 ct [a, b, .mk x4_0 x4_1 x4_2 x4_3 x4_4 x4_5] = decide (x4_1 ≠ 0) from R0.out)
   by_cases hz : x4_1 = 0
   ·
    have RR2 := hide (RR.out.trans (decide_eq_false (by omega)))
    have fz : (x4_1 != 0) = false := by rw [bne_eq_false_iff_eq]; exact hz
    clear hz
    have mkq := True.intro
    repeat (any_goals ((first | clear mkq | go_quiet (fail)); (try go_wp2_with (first | (go_at_call 29; refine (l1InS_any _ _ _ _).mono ?_; rintro e w8 ⟨rfl, rfl⟩; rw [HC.out]) | (go_at_call 86; refine (kinds_any 1 338 ct [a, b, .mk x4_0 x4_1 x4_2 x4_3 x4_4 x4_5] [1, 1, 1] S' _ _ c wr.heap.size (Row.bel bl HR.out) (by simp) (by intro j hj; have h3 : j = 0 ∨ j = 1 ∨ j = 2 := (by simp at hj; omega); rcases h3 with rfl | rfl | rfl <;> simp) (by decide)).mono ?_; rintro e wk ⟨rfl, hbk⟩; rw [HKB.out]; (have hzk := hbk.sz; obtain ⟨hkk_0, hfk_0, hlk_0, hnk_0⟩ := hbk.lay (w.heap.size); obtain ⟨hkk_1, hfk_1, hlk_1, hnk_1⟩ := hbk.lay (q); obtain ⟨hkk_2, hfk_2, hlk_2, hnk_2⟩ := hbk.lay (wr.heap.size); obtain ⟨hkk_3, hfk_3, hlk_3, hnk_3⟩ := hbk.lay (b2)))))))
    all_goals
     go_returns
     exact ⟨by rw [RR2.out]; first | done | rfl, bl⟩
   ·
    have RR2 := hide (RR.out.trans (decide_eq_true hz))
    have fz : (x4_1 != 0) = true := by rw [bne_iff_ne]; exact hz
    clear hz
    have mkq := True.intro
    repeat (any_goals ((first | clear mkq | go_quiet (fail)); (try go_wp2_with (first | (go_at_call 29; refine (l1InS_any _ _ _ _).mono ?_; rintro e w8 ⟨rfl, rfl⟩; rw [HC.out]) | (go_at_call 86; refine (kinds_any 1 338 ct [a, b, .mk x4_0 x4_1 x4_2 x4_3 x4_4 x4_5] [1, 1, 1] S' _ _ c wr.heap.size (Row.bel bl HR.out) (by simp) (by intro j hj; have h3 : j = 0 ∨ j = 1 ∨ j = 2 := (by simp at hj; omega); rcases h3 with rfl | rfl | rfl <;> simp) (by decide)).mono ?_; rintro e wk ⟨rfl, hbk⟩; rw [HKB.out]; (have hzk := hbk.sz; obtain ⟨hkk_0, hfk_0, hlk_0, hnk_0⟩ := hbk.lay (w.heap.size); obtain ⟨hkk_1, hfk_1, hlk_1, hnk_1⟩ := hbk.lay (q); obtain ⟨hkk_2, hfk_2, hlk_2, hnk_2⟩ := hbk.lay (wr.heap.size); obtain ⟨hkk_3, hfk_3, hlk_3, hnk_3⟩ := hbk.lay (b2)))))))
    all_goals
     go_returns
     exact ⟨by rw [RR2.out]; first | done | rfl, bl⟩
end Go.Proofs.YtebbpcgiacckfaaDoor
namespace Go.Proofs.YtebbpcgiacckfaaDoor
set_option linter.unusedVariables false
set_option linter.unusedSimpArgs false
set_option maxRecDepth 100000
open Go.RowKit
--%quiet
set_option maxHeartbeats 4000000 in
theorem specGen_317n (s : TStore) (ct : Int) (l : List TValue) (hall : inAllB s l = true) (hc : 1 ≤ ct ∧ ct ≤ 5000) (hk : kindsB l [5] = false) : GenC 56 s 1 317 ct l := by
 intro S S' q w A c hs hR
 have HS := hide hs
 have hq := hs.1
 have hqn : ¬ q = w.heap.size := by omega
 have HR := hide hR
 have hlen := hR.1
 have hcm := hR.2.1
 simp only [List.length_map, List.length_cons, List.length_nil, Nat.reduceAdd] at hlen
 unfold maxLen at hcm
 clear hR hs
 have HALL := hide hall
 have RR := hide (show genB s 1 317 ct l = false by rw [gen_1y hall hc, opsB_317, hk])
 have HC := hide (show (decide (1 ≤ ct) && decide (ct ≤ 5000)) = true by rw [decide_eq_true hc.1, decide_eq_true hc.2]; rfl)
 have HKB := hide hk
 clear hall hc hk
 go_enter Tryd.func56, Tryd.ntmps56
 go_wp2_with (fail)
 repeat (any_goals (go_quiet (fail); (try go_wp2_with (fail))))
 go_loopw [5] (fun v wr => ∃ m : Nat, v = .int .i64 m ∧ m ≤ l.length ∧ Bel (w.alloc (.cells #[.int .i64 1, .int .i64 317, .int .i64 ct, .slice A l.length c] 59)) wr) (fun v _ => l.length - (intOf v).toNat)
 case atStart => exact ⟨0, rfl, by omega, Bel.refl _⟩
 case round =>
  obtain ⟨m, rfl, m1, hb0⟩ := hrel
  have hbw : Bel w wr := bl
  have hz0 := hb0.sz
  have p0 : wr.cell? ⟨w.heap.size, 0, none⟩ = some (.int .i64 1) := (hb0.box w.heap.size (by simp) 0).trans (by simp)
  have p1 : wr.cell? ⟨w.heap.size, 1, none⟩ = some (.int .i64 317) := (hb0.box w.heap.size (by simp) 1).trans (by simp)
  have p2 : wr.cell? ⟨w.heap.size, 2, none⟩ = some (.int .i64 ct) := (hb0.box w.heap.size (by simp) 2).trans (by simp)
  have p3 : wr.cell? ⟨w.heap.size, 3, none⟩ = some (.slice A l.length c) := (hb0.box w.heap.size (by simp) 3).trans (by simp)
  have hl0 : w.heap.size < wr.heap.size := by omega
  have hqw : q < wr.heap.size := by omega
  by_cases h1 : m < l.length
  ·
   exact rq1
  ·
   have hd : decide ((m : Int) < (l.length : Int)) = false := by simp; omega
   have mkq := True.intro
   repeat (any_goals ((first | clear mkq | go_quiet (fail)); (try go_wp2_with (first | (go_at_call 29; refine (l1InS_any _ _ _ _).mono ?_; rintro e w8 ⟨rfl, rfl⟩; rw [HC.out]) | (go_at_call 86; refine (kinds_any 1 317 ct l [5] S' _ _ c wr.heap.size (Row.bel bl HR.out) (by simp) (by intro j hj; have h3 : j = 0 := (by simp at hj; omega); rcases h3 with rfl <;> simp) (by decide)).mono ?_; rintro e wk ⟨rfl, hbk⟩; rw [HKB.out]; (have hzk := hbk.sz; obtain ⟨hkk_0, hfk_0, hlk_0, hnk_0⟩ := hbk.lay (w.heap.size); obtain ⟨hkk_1, hfk_1, hlk_1, hnk_1⟩ := hbk.lay (q); obtain ⟨hkk_2, hfk_2, hlk_2, hnk_2⟩ := hbk.lay (wr.heap.size)))))))
   all_goals
    go_returns
    exact ⟨by rw [RR.out]; first | done | rfl, bl⟩
set_option maxHeartbeats 4000000 in
theorem specGen_317y (s : TStore) (ct : Int) (a : TValue) (hall : inAllB s [a] = true) (hc : 1 ≤ ct ∧ ct ≤ 5000) (hk : kindsB [a] [5] = true) : GenC 56 s 1 317 ct [a] := by
 intro S S' q w A c hs hR
 have HS := hide hs
 have hq := hs.1
 have hqn : ¬ q = w.heap.size := by omega
 have HR := hide hR
 have hlen := hR.1
 have hcm := hR.2.1
 simp only [List.length_map, List.length_cons, List.length_nil, Nat.reduceAdd] at hlen
 unfold maxLen at hcm
 clear hR hs
 have HALL := hide hall
 have R0 := hide (show genB s 1 317 ct [a] = true by rw [gen_1y hall hc, opsB_317, hk])
 have HC := hide (show (decide (1 ≤ ct) && decide (ct ≤ 5000)) = true by rw [decide_eq_true hc.1, decide_eq_true hc.2]; rfl)
 have HKB := hide hk
 clear hall hc hk
 go_enter Tryd.func56, Tryd.ntmps56
 go_wp2_with (fail)
 repeat (any_goals (go_quiet (fail); (try go_wp2_with (fail))))
 go_loopw [5] (fun v wr => ∃ m : Nat, v = .int .i64 m ∧ m ≤ 1 ∧ Bel (w.alloc (.cells #[.int .i64 1, .int .i64 317, .int .i64 ct, .slice A 1 c] 59)) wr) (fun v _ => 1 - (intOf v).toNat)
 case atStart => exact ⟨0, rfl, by omega, Bel.refl _⟩
 case round =>
  obtain ⟨m, rfl, m1, hb0⟩ := hrel
  have hbw : Bel w wr := bl
  have hz0 := hb0.sz
  have p0 : wr.cell? ⟨w.heap.size, 0, none⟩ = some (.int .i64 1) := (hb0.box w.heap.size (by simp) 0).trans (by simp)
  have p1 : wr.cell? ⟨w.heap.size, 1, none⟩ = some (.int .i64 317) := (hb0.box w.heap.size (by simp) 1).trans (by simp)
  have p2 : wr.cell? ⟨w.heap.size, 2, none⟩ = some (.int .i64 ct) := (hb0.box w.heap.size (by simp) 2).trans (by simp)
  have p3 : wr.cell? ⟨w.heap.size, 3, none⟩ = some (.slice A 1 c) := (hb0.box w.heap.size (by simp) 3).trans (by simp)
  have hl0 : w.heap.size < wr.heap.size := by omega
  have hqw : q < wr.heap.size := by omega
  by_cases h1 : m < 1
  ·
   exact rq9
  ·
   have hd : decide ((m : Int) < (1 : Int)) = false := by simp; omega
   have RR := hide R0.out
   have mkq := True.intro
   repeat (any_goals ((first | clear mkq | go_quiet (fail)); (try go_wp2_with (first | (go_at_call 29; refine (l1InS_any _ _ _ _).mono ?_; rintro e w8 ⟨rfl, rfl⟩; rw [HC.out]) | (go_at_call 86; refine (kinds_any 1 317 ct [a] [5] S' _ _ c wr.heap.size (Row.bel bl HR.out) (by simp) (by intro j hj; have h3 : j = 0 := (by simp at hj; omega); rcases h3 with rfl <;> simp) (by decide)).mono ?_; rintro e wk ⟨rfl, hbk⟩; rw [HKB.out]; (have hzk := hbk.sz; obtain ⟨hkk_0, hfk_0, hlk_0, hnk_0⟩ := hbk.lay (w.heap.size); obtain ⟨hkk_1, hfk_1, hlk_1, hnk_1⟩ := hbk.lay (q); obtain ⟨hkk_2, hfk_2, hlk_2, hnk_2⟩ := hbk.lay (wr.heap.size)))))))
   all_goals
    go_returns
    exact ⟨by rw [RR.out]; first | done | rfl, bl⟩
set_option maxHeartbeats 4000000 in
theorem specGen_320n (s : TStore) (ct : Int) (l : List TValue) (hall : inAllB s l = true) (hc : 1 ≤ ct ∧ ct ≤ 5000) (hk : kindsB l [2, 2, 1] = false) : GenC 56 s 1 320 ct l := by
 intro S S' q w A c hs hR
 have HS := hide hs
 have hq := hs.1
 have hqn : ¬ q = w.heap.size := by omega
 have HR := hide hR
 have hlen := hR.1
 have hcm := hR.2.1
 simp only [List.length_map, List.length_cons, List.length_nil, Nat.reduceAdd] at hlen
 unfold maxLen at hcm
 clear hR hs
 have HALL := hide hall
 have RR := hide (show genB s 1 320 ct l = false by rw [gen_1y hall hc, opsB_320, hk]; rfl)
 have HC := hide (show (decide (1 ≤ ct) && decide (ct ≤ 5000)) = true by rw [decide_eq_true hc.1, decide_eq_true hc.2]; rfl)
 have HKB := hide hk
 clear hall hc hk
 go_enter Tryd.func56, Tryd.ntmps56
 go_wp2_with (fail)
 repeat (any_goals (go_quiet (fail); (try go_wp2_with (fail))))
 go_loopw [5] (fun v wr => ∃ m : Nat, v = .int .i64 m ∧ m ≤ l.length ∧ Bel (w.alloc (.cells #[.int .i64 1, .int .i64 320, .int .i64 ct, .slice A l.length c] 59)) wr) (fun v _ => l.length - (intOf v).toNat)
 case atStart => exact ⟨0, rfl, by omega, Bel.refl _⟩
 case round =>
  obtain ⟨m, rfl, m1, hb0⟩ := hrel
  have hbw : Bel w wr := bl
  have hz0 := hb0.sz
  have p0 : wr.cell? ⟨w.heap.size, 0, none⟩ = some (.int .i64 1) := (hb0.box w.heap.size (by simp) 0).trans (by simp)
  have p1 : wr.cell? ⟨w.heap.size, 1, none⟩ = some (.int .i64 320) := (hb0.box w.heap.size (by simp) 1).trans (by simp)
  have p2 : wr.cell? ⟨w.heap.size, 2, none⟩ = some (.int .i64 ct) := (hb0.box w.heap.size (by simp) 2).trans (by simp)
  have p3 : wr.cell? ⟨w.heap.size, 3, none⟩ = some (.slice A l.length c) := (hb0.box w.heap.size (by simp) 3).trans (by simp)
  have hl0 : w.heap.size < wr.heap.size := by omega
  have hqw : q < wr.heap.size := by omega
  by_cases h1 : m < l.length
  ·
   exact rq1
  ·
   have hd : decide ((m : Int) < (l.length : Int)) = false := by simp; omega
   have mkq := True.intro
   repeat (any_goals ((first | clear mkq | go_quiet (fail)); (try go_wp2_with (go_at_call 29; refine (l1InS_any _ _ _ _).mono ?_; rintro e w8 ⟨rfl, rfl⟩; rw [HC.out]))))
   refine wp_region_held_drew (S := fun w' => w'.cell? ⟨w.heap.size, 0, none⟩ = some (.int .i64 1) ∧ w'.cell? ⟨w.heap.size, 1, none⟩ = some (.int .i64 320) ∧ w'.cell? ⟨w.heap.size, 2, none⟩ = some (.int .i64 ct) ∧ w'.cell? ⟨w.heap.size, 3, none⟩ = some (.slice A l.length c)) (by kernel_rfl) ?_ (fun hHeld => ?_)
   ·
    exact rq10
   refine tkI 0 ?_
   refine wpAnyH_ready (rs := [1]) (by kernel_rfl) (by simp) ?_
   refine AllReadyH.cons (o := _) rfl (fun K hK => ?_) AllReadyH.nil
   go_simp
   clear hHeld
   refine hK.out _ _ ?_ (fun hHeld => ?_)
   ·
    exact rq10
   clear hK K
   (try simp only [Act.put, List.setIfInBounds_toArray, List.set_cons_zero, List.set_cons_succ, List.getElem_toArray, List.getElem_cons_zero, List.getElem_cons_succ])
   refine wpAnyH_ready (rs := [2]) (by kernel_rfl) (by simp) ?_
   refine AllReadyH.cons (o := _) rfl (fun K hK => ?_) AllReadyH.nil
   go_simp
   clear hHeld
   (go_at_call 86; refine (kinds_any 1 320 ct l [2, 2, 1] S' _ _ c wr.heap.size (Row.bel bl HR.out) (by simp) (by intro j hj; have h3 : j = 0 ∨ j = 1 ∨ j = 2 := (by simp at hj; omega); rcases h3 with rfl | rfl | rfl <;> simp) (by decide)).mono ?_; rintro e wk ⟨rfl, hbk⟩; rw [HKB.out]; (have hzk := hbk.sz; obtain ⟨hkk_0, hfk_0, hlk_0, hnk_0⟩ := hbk.lay (w.heap.size); obtain ⟨hkk_1, hfk_1, hlk_1, hnk_1⟩ := hbk.lay (q); obtain ⟨hkk_2, hfk_2, hlk_2, hnk_2⟩ := hbk.lay (wr.heap.size)))
   refine hK.out _ _ ?_ (fun hHeld => ?_)
   ·
    exact rq10
   clear hK K
   (try simp only [Act.put, List.setIfInBounds_toArray, List.set_cons_zero, List.set_cons_succ, List.getElem_toArray, List.getElem_cons_zero, List.getElem_cons_succ])
   refine tkI 3 ?_
   refine tkN 4 ?_
   refine tkN 5 ?_
   refine tkN 6 ?_
   refine tkN 7 ?_
   refine tkN 8 ?_
   refine tkN 9 ?_
   refine tkN 10 ?_
   refine tkN 11 ?_
   refine tkN 12 ?_
   refine tkN 13 ?_
   refine tkN 14 ?_
   refine tkI 15 ?_
   refine tkI 16 ?_
   refine wpAnyH_done (by kernel_rfl) ?_ _
   all_goals (try (go_wp2_with (fail)))
   all_goals
    go_returns
    exact ⟨by rw [RR.out]; first | done | rfl, bl⟩
set_option maxHeartbeats 4000000 in
theorem specGen_320y (s : TStore) (ct : Int) (a b c0 : TValue) (hall : inAllB s [a, b, c0] = true) (hc : 1 ≤ ct ∧ ct ≤ 5000) (hk : kindsB [a, b, c0] [2, 2, 1] = true) : GenC 56 s 1 320 ct [a, b, c0] := by
 intro S S' q w A c hs hR
 have HS := hide hs
 have hq := hs.1
 have hqn : ¬ q = w.heap.size := by omega
 have HR := hide hR
 have hlen := hR.1
 have hcm := hR.2.1
 simp only [List.length_map, List.length_cons, List.length_nil, Nat.reduceAdd] at hlen
 unfold maxLen at hcm
 clear hR hs
 have HALL := hide hall
 have R0 := hide (show genB s 1 320 ct [a, b, c0] = placeB b.v c0.v by rw [gen_1y hall hc, opsB_320, hk, Bool.true_and, vAt_1, vAt_2])
 have HC := hide (show (decide (1 ≤ ct) && decide (ct ≤ 5000)) = true by rw [decide_eq_true hc.1, decide_eq_true hc.2]; rfl)
 have HKB := hide hk
 have hkk : b.v.k = 2 ∧ c0.v.k = 1 := by unfold kindsB at hk; have := of_decide_eq_true hk; simp at this; exact ⟨this.2.1, this.2.2⟩
 have HW := hide (show inB s b.v = true from inAll_at hall (i := 1) (by simp))
 have HKK := hide hkk
 clear hkk
 clear hall hc hk
 go_enter Tryd.func56, Tryd.ntmps56
 go_wp2_with (fail)
 repeat (any_goals (go_quiet (fail); (try go_wp2_with (fail))))
 go_loopw [5] (fun v wr => ∃ m : Nat, v = .int .i64 m ∧ m ≤ 3 ∧ Bel (w.alloc (.cells #[.int .i64 1, .int .i64 320, .int .i64 ct, .slice A 3 c] 59)) wr) (fun v _ => 3 - (intOf v).toNat)
 case atStart => exact ⟨0, rfl, by omega, Bel.refl _⟩
 case round =>
  obtain ⟨m, rfl, m1, hb0⟩ := hrel
  have hbw : Bel w wr := bl
  have hz0 := hb0.sz
  have p0 : wr.cell? ⟨w.heap.size, 0, none⟩ = some (.int .i64 1) := (hb0.box w.heap.size (by simp) 0).trans (by simp)
  have p1 : wr.cell? ⟨w.heap.size, 1, none⟩ = some (.int .i64 320) := (hb0.box w.heap.size (by simp) 1).trans (by simp)
  have p2 : wr.cell? ⟨w.heap.size, 2, none⟩ = some (.int .i64 ct) := (hb0.box w.heap.size (by simp) 2).trans (by simp)
  have p3 : wr.cell? ⟨w.heap.size, 3, none⟩ = some (.slice A 3 c) := (hb0.box w.heap.size (by simp) 3).trans (by simp)
  have hl0 : w.heap.size < wr.heap.size := by omega
  have hqw : q < wr.heap.size := by omega
  by_cases h1 : m < 3
  ·
   exact rq3
  ·
   have hd : decide ((m : Int) < (3 : Int)) = false := by simp; omega
   (obtain ⟨b2, o2, x2_0, x2_1, x2_2, x2_3, x2_4, x2_5, hA2, hS2, hl2, hx2, hv2, g2_0, g2_1, g2_2, g2_3, g2_4, g2_5, c2_0, c2_1, c2_2, c2_3, c2_4, c2_5⟩ := TValue.at HR.out 0 (by simp); subst hA2; have HV2 := hide (Dat.HoldVals.bel hbw hv2); have hh2 := hbw.box b2 hl2; have hw2 := Nat.lt_of_lt_of_le hl2 (Bel.size hbw); replace c2_0 := (hh2 _).trans c2_0; replace c2_1 := (hh2 _).trans c2_1; replace c2_2 := (hh2 _).trans c2_2; replace c2_3 := (hh2 _).trans c2_3; replace c2_4 := (hh2 _).trans c2_4; replace c2_5 := (hh2 _).trans c2_5; have HX2 := hide hx2; clear hh2 hv2 hx2 hS2; simp only [Nat.zero_mul, Nat.one_mul, Nat.add_zero, Nat.reduceMul, Nat.add_assoc, Nat.reduceAdd] at c2_0 c2_1 c2_2 c2_3 c2_4 c2_5)
   (obtain ⟨b3, o3, x3_0, x3_1, x3_2, x3_3, x3_4, x3_5, hA3, hS3, hl3, hx3, hv3, g3_0, g3_1, g3_2, g3_3, g3_4, g3_5, c3_0, c3_1, c3_2, c3_3, c3_4, c3_5⟩ := TValue.at HR.out 1 (by simp); injection Option.some.inj hA3 with qb3 qo3 _; subst qb3 qo3; have HV3 := hide (Dat.HoldVals.bel hbw hv3); have hh3 := hbw.box b2 hl3; have hw3 := Nat.lt_of_lt_of_le hl3 (Bel.size hbw); replace c3_0 := (hh3 _).trans c3_0; replace c3_1 := (hh3 _).trans c3_1; replace c3_2 := (hh3 _).trans c3_2; replace c3_3 := (hh3 _).trans c3_3; replace c3_4 := (hh3 _).trans c3_4; replace c3_5 := (hh3 _).trans c3_5; have HX3 := hide hx3; clear hh3 hv3 hx3 hS3; simp only [Nat.zero_mul, Nat.one_mul, Nat.add_zero, Nat.reduceMul, Nat.add_assoc, Nat.reduceAdd] at c3_0 c3_1 c3_2 c3_3 c3_4 c3_5)
   (obtain ⟨b4, o4, x4_0, x4_1, x4_2, x4_3, x4_4, x4_5, hA4, hS4, hl4, hx4, hv4, g4_0, g4_1, g4_2, g4_3, g4_4, g4_5, c4_0, c4_1, c4_2, c4_3, c4_4, c4_5⟩ := TValue.at HR.out 2 (by simp); injection Option.some.inj hA4 with qb4 qo4 _; subst qb4 qo4; have HV4 := hide (Dat.HoldVals.bel hbw hv4); have hh4 := hbw.box b2 hl4; have hw4 := Nat.lt_of_lt_of_le hl4 (Bel.size hbw); replace c4_0 := (hh4 _).trans c4_0; replace c4_1 := (hh4 _).trans c4_1; replace c4_2 := (hh4 _).trans c4_2; replace c4_3 := (hh4 _).trans c4_3; replace c4_4 := (hh4 _).trans c4_4; replace c4_5 := (hh4 _).trans c4_5; have HX4 := hide hx4; clear hh4 hv4 hx4 hS4; simp only [Nat.zero_mul, Nat.one_mul, Nat.add_zero, Nat.reduceMul, Nat.add_assoc, Nat.reduceAdd] at c4_0 c4_1 c4_2 c4_3 c4_4 c4_5)
   have hne2 : ¬ b2 = wr.heap.size := by omega
   have hb2w : b2 < wr.heap.size := by omega
   obtain rfl : c0 = .mk x4_0 x4_1 x4_2 x4_3 x4_4 x4_5 := HX4.out
   obtain rfl : b = .mk x3_0 x3_1 x3_2 x3_3 x3_4 x3_5 := HX3.out
   have HT := hide (show x3_3.size ≤ 120 from well_t2 (inB_well HW.out) HKK.out.1)
   have RR := hide (show genB s 1 320 ct [a, .mk x3_0 x3_1 x3_2 x3_3 x3_4 x3_5, .mk x4_0 x4_1 x4_2 x4_3 x4_4 x4_5] = goodPl x3_3 x4_1 from R0.out.trans (place_good HKK.out.1 HKK.out.2 HT.out))
   obtain ⟨gp, hgp⟩ : ∃ gp, goodPl x3_3 x4_1 = gp := ⟨_, rfl⟩
   have HGP := hide hgp
   rw [hgp] at RR
   clear hgp
   have HM := hide (show x3_3.size ≤ maxLen by have := HT.out; unfold maxLen; omega)
   have mkq := True.intro
   repeat (any_goals ((first | clear mkq | go_quiet (fail)); (try go_wp2_with (go_at_call 29; refine (l1InS_any _ _ _ _).mono ?_; rintro e w8 ⟨rfl, rfl⟩; rw [HC.out]))))
   refine wp_region_held_drew (S := fun w' => w'.cell? ⟨w.heap.size, 0, none⟩ = some (.int .i64 1) ∧ w'.cell? ⟨w.heap.size, 1, none⟩ = some (.int .i64 320) ∧ w'.cell? ⟨w.heap.size, 2, none⟩ = some (.int .i64 ct) ∧ w'.cell? ⟨w.heap.size, 3, none⟩ = some (.slice (some ⟨b2, o2, none⟩) 3 c) ∧ w'.cell? ⟨b2, o2 + 9, none⟩ = some (.string x3_3) ∧ w'.cell? ⟨b2, o2 + 13, none⟩ = some (.int .i64 x4_1)) (by kernel_rfl) ?_ (fun hHeld => ?_)
   ·
    exact rq4
   refine tkI 0 ?_
   refine wpAnyH_ready (rs := [1]) (by kernel_rfl) (by simp) ?_
   refine AllReadyH.cons (o := _) rfl (fun K hK => ?_) AllReadyH.nil
   go_simp
   clear hHeld
   refine hK.out _ _ ?_ (fun hHeld => ?_)
   ·
    exact rq4
   clear hK K
   (try simp only [Act.put, List.setIfInBounds_toArray, List.set_cons_zero, List.set_cons_succ, List.getElem_toArray, List.getElem_cons_zero, List.getElem_cons_succ])
   refine wpAnyH_ready (rs := [2]) (by kernel_rfl) (by simp) ?_
   refine AllReadyH.cons (o := _) rfl (fun K hK => ?_) AllReadyH.nil
   go_simp
   clear hHeld
   (go_at_call 86; refine (kinds_any 1 320 ct [a, .mk x3_0 x3_1 x3_2 x3_3 x3_4 x3_5, .mk x4_0 x4_1 x4_2 x4_3 x4_4 x4_5] [2, 2, 1] S' _ _ c wr.heap.size (Row.bel bl HR.out) (by simp) (by intro j hj; have h3 : j = 0 ∨ j = 1 ∨ j = 2 := (by simp at hj; omega); rcases h3 with rfl | rfl | rfl <;> simp) (by decide)).mono ?_; rintro e wk ⟨rfl, hbk⟩; rw [HKB.out]; (have hzk := hbk.sz; obtain ⟨hkk_0, hfk_0, hlk_0, hnk_0⟩ := hbk.lay (w.heap.size); obtain ⟨hkk_1, hfk_1, hlk_1, hnk_1⟩ := hbk.lay (q); obtain ⟨hkk_2, hfk_2, hlk_2, hnk_2⟩ := hbk.lay (wr.heap.size)))
   refine hK.out _ _ ?_ (fun hHeld => ?_)
   ·
    exact rq4
   clear hK K
   (try simp only [Act.put, List.setIfInBounds_toArray, List.set_cons_zero, List.set_cons_succ, List.getElem_toArray, List.getElem_cons_zero, List.getElem_cons_succ])
   refine tkI 3 ?_
   refine tkI 4 ?_
   refine tkI 5 ?_
   refine tkI 6 ?_
   refine tkI 7 ?_
   refine tkI 8 ?_
   refine tkI 9 ?_
   refine tkI 10 ?_
   refine tkI 11 ?_
   refine tkI 12 ?_
   refine tkI 13 ?_
   refine wpAnyH_ready (rs := [14]) (by kernel_rfl) (by simp) ?_
   refine AllReadyH.cons (o := _) rfl (fun K hK => ?_) AllReadyH.nil
   go_simp
   clear hHeld
   (go_at_call 87; refine (l17At_any x3_3 x4_1 _ HM.out).mono ?_; rintro e w9 ⟨rfl, rfl⟩; rw [HGP.out])
   refine hK.out _ _ ?_ (fun hHeld => ?_)
   ·
    exact rq4
   clear hK K
   (try simp only [Act.put, List.setIfInBounds_toArray, List.set_cons_zero, List.set_cons_succ, List.getElem_toArray, List.getElem_cons_zero, List.getElem_cons_succ])
   refine tkI 15 ?_
   refine tkI 16 ?_
   refine wpAnyH_done (by kernel_rfl) ?_ _
   all_goals (try (go_wp2_with (fail)))
   all_goals
    go_returns
    exact ⟨by rw [RR.out]; first | done | rfl, bl⟩
set_option maxHeartbeats 4000000 in
theorem specGen_321n (s : TStore) (ct : Int) (l : List TValue) (hall : inAllB s l = true) (hc : 1 ≤ ct ∧ ct ≤ 5000) (hk : kindsB l [3, 2, 1] = false) : GenC 56 s 1 321 ct l := by
 intro S S' q w A c hs hR
 have HS := hide hs
 have hq := hs.1
 have hqn : ¬ q = w.heap.size := by omega
 have HR := hide hR
 have hlen := hR.1
 have hcm := hR.2.1
 simp only [List.length_map, List.length_cons, List.length_nil, Nat.reduceAdd] at hlen
 unfold maxLen at hcm
 clear hR hs
 have HALL := hide hall
 have RR := hide (show genB s 1 321 ct l = false by rw [gen_1y hall hc, opsB_321, hk]; rfl)
 have HC := hide (show (decide (1 ≤ ct) && decide (ct ≤ 5000)) = true by rw [decide_eq_true hc.1, decide_eq_true hc.2]; rfl)
 have HKB := hide hk
 clear hall hc hk
 go_enter Tryd.func56, Tryd.ntmps56
 go_wp2_with (fail)
 repeat (any_goals (go_quiet (fail); (try go_wp2_with (fail))))
 go_loopw [5] (fun v wr => ∃ m : Nat, v = .int .i64 m ∧ m ≤ l.length ∧ Bel (w.alloc (.cells #[.int .i64 1, .int .i64 321, .int .i64 ct, .slice A l.length c] 59)) wr) (fun v _ => l.length - (intOf v).toNat)
 case atStart => exact ⟨0, rfl, by omega, Bel.refl _⟩
 case round =>
  obtain ⟨m, rfl, m1, hb0⟩ := hrel
  have hbw : Bel w wr := bl
  have hz0 := hb0.sz
  have p0 : wr.cell? ⟨w.heap.size, 0, none⟩ = some (.int .i64 1) := (hb0.box w.heap.size (by simp) 0).trans (by simp)
  have p1 : wr.cell? ⟨w.heap.size, 1, none⟩ = some (.int .i64 321) := (hb0.box w.heap.size (by simp) 1).trans (by simp)
  have p2 : wr.cell? ⟨w.heap.size, 2, none⟩ = some (.int .i64 ct) := (hb0.box w.heap.size (by simp) 2).trans (by simp)
  have p3 : wr.cell? ⟨w.heap.size, 3, none⟩ = some (.slice A l.length c) := (hb0.box w.heap.size (by simp) 3).trans (by simp)
  have hl0 : w.heap.size < wr.heap.size := by omega
  have hqw : q < wr.heap.size := by omega
  by_cases h1 : m < l.length
  ·
   exact rq1
  ·
   have hd : decide ((m : Int) < (l.length : Int)) = false := by simp; omega
   have mkq := True.intro
   repeat (any_goals ((first | clear mkq | go_quiet (fail)); (try go_wp2_with (go_at_call 29; refine (l1InS_any _ _ _ _).mono ?_; rintro e w8 ⟨rfl, rfl⟩; rw [HC.out]))))
   refine wp_region_held_drew (S := fun w' => w'.cell? ⟨w.heap.size, 0, none⟩ = some (.int .i64 1) ∧ w'.cell? ⟨w.heap.size, 1, none⟩ = some (.int .i64 321) ∧ w'.cell? ⟨w.heap.size, 2, none⟩ = some (.int .i64 ct) ∧ w'.cell? ⟨w.heap.size, 3, none⟩ = some (.slice A l.length c)) (by kernel_rfl) ?_ (fun hHeld => ?_)
   ·
    exact rq10
   refine tkI 0 ?_
   refine wpAnyH_ready (rs := [1]) (by kernel_rfl) (by simp) ?_
   refine AllReadyH.cons (o := _) rfl (fun K hK => ?_) AllReadyH.nil
   go_simp
   clear hHeld
   refine hK.out _ _ ?_ (fun hHeld => ?_)
   ·
    exact rq10
   clear hK K
   (try simp only [Act.put, List.setIfInBounds_toArray, List.set_cons_zero, List.set_cons_succ, List.getElem_toArray, List.getElem_cons_zero, List.getElem_cons_succ])
   refine wpAnyH_ready (rs := [2]) (by kernel_rfl) (by simp) ?_
   refine AllReadyH.cons (o := _) rfl (fun K hK => ?_) AllReadyH.nil
   go_simp
   clear hHeld
   (go_at_call 86; refine (kinds_any 1 321 ct l [3, 2, 1] S' _ _ c wr.heap.size (Row.bel bl HR.out) (by simp) (by intro j hj; have h3 : j = 0 ∨ j = 1 ∨ j = 2 := (by simp at hj; omega); rcases h3 with rfl | rfl | rfl <;> simp) (by decide)).mono ?_; rintro e wk ⟨rfl, hbk⟩; rw [HKB.out]; (have hzk := hbk.sz; obtain ⟨hkk_0, hfk_0, hlk_0, hnk_0⟩ := hbk.lay (w.heap.size); obtain ⟨hkk_1, hfk_1, hlk_1, hnk_1⟩ := hbk.lay (q); obtain ⟨hkk_2, hfk_2, hlk_2, hnk_2⟩ := hbk.lay (wr.heap.size)))
   refine hK.out _ _ ?_ (fun hHeld => ?_)
   ·
    exact rq10
   clear hK K
   (try simp only [Act.put, List.setIfInBounds_toArray, List.set_cons_zero, List.set_cons_succ, List.getElem_toArray, List.getElem_cons_zero, List.getElem_cons_succ])
   refine tkI 3 ?_
   refine tkN 4 ?_
   refine tkN 5 ?_
   refine tkN 6 ?_
   refine tkN 7 ?_
   refine tkN 8 ?_
   refine tkN 9 ?_
   refine tkN 10 ?_
   refine tkN 11 ?_
   refine tkN 12 ?_
   refine tkN 13 ?_
   refine tkN 14 ?_
   refine tkI 15 ?_
   refine tkI 16 ?_
   refine wpAnyH_done (by kernel_rfl) ?_ _
   all_goals (try (go_wp2_with (fail)))
   all_goals
    go_returns
    exact ⟨by rw [RR.out]; first | done | rfl, bl⟩
set_option maxHeartbeats 4000000 in
theorem specGen_321y (s : TStore) (ct : Int) (a b c0 : TValue) (hall : inAllB s [a, b, c0] = true) (hc : 1 ≤ ct ∧ ct ≤ 5000) (hk : kindsB [a, b, c0] [3, 2, 1] = true) : GenC 56 s 1 321 ct [a, b, c0] := by
 intro S S' q w A c hs hR
 have HS := hide hs
 have hq := hs.1
 have hqn : ¬ q = w.heap.size := by omega
 have HR := hide hR
 have hlen := hR.1
 have hcm := hR.2.1
 simp only [List.length_map, List.length_cons, List.length_nil, Nat.reduceAdd] at hlen
 unfold maxLen at hcm
 clear hR hs
 have HALL := hide hall
 have R0 := hide (show genB s 1 321 ct [a, b, c0] = placeB b.v c0.v by rw [gen_1y hall hc, opsB_321, hk, Bool.true_and, vAt_1, vAt_2])
 have HC := hide (show (decide (1 ≤ ct) && decide (ct ≤ 5000)) = true by rw [decide_eq_true hc.1, decide_eq_true hc.2]; rfl)
 have HKB := hide hk
 have hkk : b.v.k = 2 ∧ c0.v.k = 1 := by unfold kindsB at hk; have := of_decide_eq_true hk; simp at this; exact ⟨this.2.1, this.2.2⟩
 have HW := hide (show inB s b.v = true from inAll_at hall (i := 1) (by simp))
 have HKK := hide hkk
 clear hkk
 clear hall hc hk
 go_enter Tryd.func56, Tryd.ntmps56
 go_wp2_with (fail)
 repeat (any_goals (go_quiet (fail); (try go_wp2_with (fail))))
 go_loopw [5] (fun v wr => ∃ m : Nat, v = .int .i64 m ∧ m ≤ 3 ∧ Bel (w.alloc (.cells #[.int .i64 1, .int .i64 321, .int .i64 ct, .slice A 3 c] 59)) wr) (fun v _ => 3 - (intOf v).toNat)
 case atStart => exact ⟨0, rfl, by omega, Bel.refl _⟩
 case round =>
  obtain ⟨m, rfl, m1, hb0⟩ := hrel
  have hbw : Bel w wr := bl
  have hz0 := hb0.sz
  have p0 : wr.cell? ⟨w.heap.size, 0, none⟩ = some (.int .i64 1) := (hb0.box w.heap.size (by simp) 0).trans (by simp)
  have p1 : wr.cell? ⟨w.heap.size, 1, none⟩ = some (.int .i64 321) := (hb0.box w.heap.size (by simp) 1).trans (by simp)
  have p2 : wr.cell? ⟨w.heap.size, 2, none⟩ = some (.int .i64 ct) := (hb0.box w.heap.size (by simp) 2).trans (by simp)
  have p3 : wr.cell? ⟨w.heap.size, 3, none⟩ = some (.slice A 3 c) := (hb0.box w.heap.size (by simp) 3).trans (by simp)
  have hl0 : w.heap.size < wr.heap.size := by omega
  have hqw : q < wr.heap.size := by omega
  by_cases h1 : m < 3
  ·
   exact rq3
  ·
   have hd : decide ((m : Int) < (3 : Int)) = false := by simp; omega
   (obtain ⟨b2, o2, x2_0, x2_1, x2_2, x2_3, x2_4, x2_5, hA2, hS2, hl2, hx2, hv2, g2_0, g2_1, g2_2, g2_3, g2_4, g2_5, c2_0, c2_1, c2_2, c2_3, c2_4, c2_5⟩ := TValue.at HR.out 0 (by simp); subst hA2; have HV2 := hide (Dat.HoldVals.bel hbw hv2); have hh2 := hbw.box b2 hl2; have hw2 := Nat.lt_of_lt_of_le hl2 (Bel.size hbw); replace c2_0 := (hh2 _).trans c2_0; replace c2_1 := (hh2 _).trans c2_1; replace c2_2 := (hh2 _).trans c2_2; replace c2_3 := (hh2 _).trans c2_3; replace c2_4 := (hh2 _).trans c2_4; replace c2_5 := (hh2 _).trans c2_5; have HX2 := hide hx2; clear hh2 hv2 hx2 hS2; simp only [Nat.zero_mul, Nat.one_mul, Nat.add_zero, Nat.reduceMul, Nat.add_assoc, Nat.reduceAdd] at c2_0 c2_1 c2_2 c2_3 c2_4 c2_5)
   (obtain ⟨b3, o3, x3_0, x3_1, x3_2, x3_3, x3_4, x3_5, hA3, hS3, hl3, hx3, hv3, g3_0, g3_1, g3_2, g3_3, g3_4, g3_5, c3_0, c3_1, c3_2, c3_3, c3_4, c3_5⟩ := TValue.at HR.out 1 (by simp); injection Option.some.inj hA3 with qb3 qo3 _; subst qb3 qo3; have HV3 := hide (Dat.HoldVals.bel hbw hv3); have hh3 := hbw.box b2 hl3; have hw3 := Nat.lt_of_lt_of_le hl3 (Bel.size hbw); replace c3_0 := (hh3 _).trans c3_0; replace c3_1 := (hh3 _).trans c3_1; replace c3_2 := (hh3 _).trans c3_2; replace c3_3 := (hh3 _).trans c3_3; replace c3_4 := (hh3 _).trans c3_4; replace c3_5 := (hh3 _).trans c3_5; have HX3 := hide hx3; clear hh3 hv3 hx3 hS3; simp only [Nat.zero_mul, Nat.one_mul, Nat.add_zero, Nat.reduceMul, Nat.add_assoc, Nat.reduceAdd] at c3_0 c3_1 c3_2 c3_3 c3_4 c3_5)
   (obtain ⟨b4, o4, x4_0, x4_1, x4_2, x4_3, x4_4, x4_5, hA4, hS4, hl4, hx4, hv4, g4_0, g4_1, g4_2, g4_3, g4_4, g4_5, c4_0, c4_1, c4_2, c4_3, c4_4, c4_5⟩ := TValue.at HR.out 2 (by simp); injection Option.some.inj hA4 with qb4 qo4 _; subst qb4 qo4; have HV4 := hide (Dat.HoldVals.bel hbw hv4); have hh4 := hbw.box b2 hl4; have hw4 := Nat.lt_of_lt_of_le hl4 (Bel.size hbw); replace c4_0 := (hh4 _).trans c4_0; replace c4_1 := (hh4 _).trans c4_1; replace c4_2 := (hh4 _).trans c4_2; replace c4_3 := (hh4 _).trans c4_3; replace c4_4 := (hh4 _).trans c4_4; replace c4_5 := (hh4 _).trans c4_5; have HX4 := hide hx4; clear hh4 hv4 hx4 hS4; simp only [Nat.zero_mul, Nat.one_mul, Nat.add_zero, Nat.reduceMul, Nat.add_assoc, Nat.reduceAdd] at c4_0 c4_1 c4_2 c4_3 c4_4 c4_5)
   have hne2 : ¬ b2 = wr.heap.size := by omega
   have hb2w : b2 < wr.heap.size := by omega
   obtain rfl : c0 = .mk x4_0 x4_1 x4_2 x4_3 x4_4 x4_5 := HX4.out
   obtain rfl : b = .mk x3_0 x3_1 x3_2 x3_3 x3_4 x3_5 := HX3.out
   have HT := hide (show x3_3.size ≤ 120 from well_t2 (inB_well HW.out) HKK.out.1)
   have RR := hide (show genB s 1 321 ct [a, .mk x3_0 x3_1 x3_2 x3_3 x3_4 x3_5, .mk x4_0 x4_1 x4_2 x4_3 x4_4 x4_5] = goodPl x3_3 x4_1 from R0.out.trans (place_good HKK.out.1 HKK.out.2 HT.out))
   obtain ⟨gp, hgp⟩ : ∃ gp, goodPl x3_3 x4_1 = gp := ⟨_, rfl⟩
   have HGP := hide hgp
   rw [hgp] at RR
   clear hgp
   have HM := hide (show x3_3.size ≤ maxLen by have := HT.out; unfold maxLen; omega)
   have mkq := True.intro
   repeat (any_goals ((first | clear mkq | go_quiet (fail)); (try go_wp2_with (go_at_call 29; refine (l1InS_any _ _ _ _).mono ?_; rintro e w8 ⟨rfl, rfl⟩; rw [HC.out]))))
   refine wp_region_held_drew (S := fun w' => w'.cell? ⟨w.heap.size, 0, none⟩ = some (.int .i64 1) ∧ w'.cell? ⟨w.heap.size, 1, none⟩ = some (.int .i64 321) ∧ w'.cell? ⟨w.heap.size, 2, none⟩ = some (.int .i64 ct) ∧ w'.cell? ⟨w.heap.size, 3, none⟩ = some (.slice (some ⟨b2, o2, none⟩) 3 c) ∧ w'.cell? ⟨b2, o2 + 9, none⟩ = some (.string x3_3) ∧ w'.cell? ⟨b2, o2 + 13, none⟩ = some (.int .i64 x4_1)) (by kernel_rfl) ?_ (fun hHeld => ?_)
   ·
    exact rq4
   refine tkI 0 ?_
   refine wpAnyH_ready (rs := [1]) (by kernel_rfl) (by simp) ?_
   refine AllReadyH.cons (o := _) rfl (fun K hK => ?_) AllReadyH.nil
   go_simp
   clear hHeld
   refine hK.out _ _ ?_ (fun hHeld => ?_)
   ·
    exact rq4
   clear hK K
   (try simp only [Act.put, List.setIfInBounds_toArray, List.set_cons_zero, List.set_cons_succ, List.getElem_toArray, List.getElem_cons_zero, List.getElem_cons_succ])
   refine wpAnyH_ready (rs := [2]) (by kernel_rfl) (by simp) ?_
   refine AllReadyH.cons (o := _) rfl (fun K hK => ?_) AllReadyH.nil
   go_simp
   clear hHeld
   (go_at_call 86; refine (kinds_any 1 321 ct [a, .mk x3_0 x3_1 x3_2 x3_3 x3_4 x3_5, .mk x4_0 x4_1 x4_2 x4_3 x4_4 x4_5] [3, 2, 1] S' _ _ c wr.heap.size (Row.bel bl HR.out) (by simp) (by intro j hj; have h3 : j = 0 ∨ j = 1 ∨ j = 2 := (by simp at hj; omega); rcases h3 with rfl | rfl | rfl <;> simp) (by decide)).mono ?_; rintro e wk ⟨rfl, hbk⟩; rw [HKB.out]; (have hzk := hbk.sz; obtain ⟨hkk_0, hfk_0, hlk_0, hnk_0⟩ := hbk.lay (w.heap.size); obtain ⟨hkk_1, hfk_1, hlk_1, hnk_1⟩ := hbk.lay (q); obtain ⟨hkk_2, hfk_2, hlk_2, hnk_2⟩ := hbk.lay (wr.heap.size)))
   refine hK.out _ _ ?_ (fun hHeld => ?_)
   ·
    exact rq4
   clear hK K
   (try simp only [Act.put, List.setIfInBounds_toArray, List.set_cons_zero, List.set_cons_succ, List.getElem_toArray, List.getElem_cons_zero, List.getElem_cons_succ])
   refine tkI 3 ?_
   refine tkI 4 ?_
   refine tkI 5 ?_
   refine tkI 6 ?_
   refine tkI 7 ?_
   refine tkI 8 ?_
   refine tkI 9 ?_
   refine tkI 10 ?_
   refine tkI 11 ?_
   refine tkI 12 ?_
   refine tkI 13 ?_
   refine wpAnyH_ready (rs := [14]) (by kernel_rfl) (by simp) ?_
   refine AllReadyH.cons (o := _) rfl (fun K hK => ?_) AllReadyH.nil
   go_simp
   clear hHeld
   (go_at_call 87; refine (l17At_any x3_3 x4_1 _ HM.out).mono ?_; rintro e w9 ⟨rfl, rfl⟩; rw [HGP.out])
   refine hK.out _ _ ?_ (fun hHeld => ?_)
   ·
    exact rq4
   clear hK K
   (try simp only [Act.put, List.setIfInBounds_toArray, List.set_cons_zero, List.set_cons_succ, List.getElem_toArray, List.getElem_cons_zero, List.getElem_cons_succ])
   refine tkI 15 ?_
   refine tkI 16 ?_
   refine wpAnyH_done (by kernel_rfl) ?_ _
   all_goals (try (go_wp2_with (fail)))
   all_goals
    go_returns
    exact ⟨by rw [RR.out]; first | done | rfl, bl⟩
set_option maxHeartbeats 4000000 in
theorem specGen_out (s : TStore) (op ct : Int) (l : List TValue) (hall : inAllB s l = true) (hc : 1 ≤ ct ∧ ct ≤ 5000) (ho : op ≠ 7 ∧ op ≠ 72 ∧ op ≠ 338 ∧ op ≠ 317 ∧ op ≠ 320 ∧ op ≠ 321) : GenC 56 s 1 op ct l := by
 intro S S' q w A c hs hR
 have HS := hide hs
 have hq := hs.1
 have hqn : ¬ q = w.heap.size := by omega
 have HR := hide hR
 have hlen := hR.1
 have hcm := hR.2.1
 simp only [List.length_map, List.length_cons, List.length_nil, Nat.reduceAdd] at hlen
 unfold maxLen at hcm
 clear hR hs
 have HALL := hide hall
 have RR := hide (show genB s 1 op ct l = false by rw [gen_1y hall hc, opsB_out l ho])
 have HC := hide (show (decide (1 ≤ ct) && decide (ct ≤ 5000)) = true by rw [decide_eq_true hc.1, decide_eq_true hc.2]; rfl)
 have fo7 : (op == 7) = false := by rw [beq_eq_false_iff_ne]; omega
 have fo72 : (op == 72) = false := by rw [beq_eq_false_iff_ne]; omega
 have fo338 : (op == 338) = false := by rw [beq_eq_false_iff_ne]; omega
 have fo317 : (op == 317) = false := by rw [beq_eq_false_iff_ne]; omega
 have fo320 : (op == 320) = false := by rw [beq_eq_false_iff_ne]; omega
 have fo321 : (op == 321) = false := by rw [beq_eq_false_iff_ne]; omega
 clear hall hc ho
 go_enter Tryd.func56, Tryd.ntmps56
 go_wp2_with (fail)
 repeat (any_goals (go_quiet (fail); (try go_wp2_with (fail))))
 go_loopw [5] (fun v wr => ∃ m : Nat, v = .int .i64 m ∧ m ≤ l.length ∧ Bel (w.alloc (.cells #[.int .i64 1, .int .i64 op, .int .i64 ct, .slice A l.length c] 59)) wr) (fun v _ => l.length - (intOf v).toNat)
 case atStart => exact ⟨0, rfl, by omega, Bel.refl _⟩
 case round =>
  obtain ⟨m, rfl, m1, hb0⟩ := hrel
  have hbw : Bel w wr := bl
  have hz0 := hb0.sz
  have p0 : wr.cell? ⟨w.heap.size, 0, none⟩ = some (.int .i64 1) := (hb0.box w.heap.size (by simp) 0).trans (by simp)
  have p1 : wr.cell? ⟨w.heap.size, 1, none⟩ = some (.int .i64 op) := (hb0.box w.heap.size (by simp) 1).trans (by simp)
  have p2 : wr.cell? ⟨w.heap.size, 2, none⟩ = some (.int .i64 ct) := (hb0.box w.heap.size (by simp) 2).trans (by simp)
  have p3 : wr.cell? ⟨w.heap.size, 3, none⟩ = some (.slice A l.length c) := (hb0.box w.heap.size (by simp) 3).trans (by simp)
  have hl0 : w.heap.size < wr.heap.size := by omega
  have hqw : q < wr.heap.size := by omega
  by_cases h1 : m < l.length
  ·
   exact rq1
  ·
   exact rq13
end Go.Proofs.YtebbpcgiacckfaaDoor
