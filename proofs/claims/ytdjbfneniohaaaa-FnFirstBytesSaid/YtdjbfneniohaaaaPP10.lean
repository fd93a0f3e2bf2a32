/- The least length of a valid pattern, both sides. -/
import Derived.Test.YtdjbfneniohaaaaPP1
namespace Go.Proofs.Ytdjbfneniohaaaa
set_option linter.unusedVariables false
set_option linter.unusedSimpArgs false
set_option maxRecDepth 100000
open Go.RowKit
mutual
/-- The least length. -/
def TPattern.least : TPattern → Int
 | .mk op t n _ _ ks => min (if op = 1 then (t.size : Int) else if op = 2 then n else if op = 7 ∨ op = 8 ∨ op = 9 then 1 else if op = 14 then (TPattern.leasts ks).getD 0 0 + (TPattern.leasts ks).getD 1 0
   else if op = 15 then min ((TPattern.leasts ks).getD 0 0) ((TPattern.leasts ks).getD 1 0) else if op = 16 ∨ op = 17 then (TPattern.leasts ks).getD 0 0 else if op = 23 then 121 else 0) 121
def TPattern.leasts : List TPattern → List Int
 | [] => []
 | x :: r => TPattern.least x :: TPattern.leasts r
end
theorem TPattern.kids2 {vars op n lo hi : Int} {t : ByteArray} {ks : List TPattern} (h : (TPattern.mk op t n lo hi ks).vld vars = true) (h2 : kidsN op = 2) : ∃ a b, ks = [a, b] ∧ a.vld vars = true ∧ b.vld vars = true := by
 simp only [TPattern.vld, Bool.and_eq_true, decide_eq_true_eq] at h
 obtain ⟨⟨⟨_, _, hl, _⟩, _⟩, hk⟩ := h
 rw [h2] at hl
 match ks, hl with
 | [a, b], _ =>
  simp only [TPattern.vlds, Bool.and_eq_true, and_true] at hk
  exact ⟨a, b, rfl, hk.1, hk.2⟩
theorem TPattern.kids1 {vars op n lo hi : Int} {t : ByteArray} {ks : List TPattern} (h : (TPattern.mk op t n lo hi ks).vld vars = true) (h1 : kidsN op = 1) : ∃ a, ks = [a] ∧ a.vld vars = true := by
 simp only [TPattern.vld, Bool.and_eq_true, decide_eq_true_eq] at h
 obtain ⟨⟨⟨_, _, hl, _⟩, _⟩, hk⟩ := h
 rw [h1] at hl
 match ks, hl with
 | [a], _ =>
  simp only [TPattern.vlds, Bool.and_eq_true, and_true] at hk
  exact ⟨a, rfl, hk⟩
theorem TPattern.vld2 {vars op n lo hi : Int} {t : ByteArray} {a b : TPattern} (h : (TPattern.mk op t n lo hi [a, b]).vld vars = true) : a.vld vars = true ∧ b.vld vars = true := by
 simp only [TPattern.vld, TPattern.vlds, Bool.and_eq_true, and_true] at h
 exact h.2
theorem TPattern.vld1 {vars op n lo hi : Int} {t : ByteArray} {a : TPattern} (h : (TPattern.mk op t n lo hi [a]).vld vars = true) : a.vld vars = true := by
 simp only [TPattern.vld, TPattern.vlds, Bool.and_eq_true, and_true] at h
 exact h.2
theorem vld_num2 {vars n lo hi : Int} {t : ByteArray} {ks : List TPattern} (h : (TPattern.mk 2 t n lo hi ks).vld vars = true) : 0 ≤ n ∧ n ≤ 120 := by
 simp only [TPattern.vld, Bool.and_eq_true, decide_eq_true_eq] at h
 have := h.1.2
 simpa [nodeN] using this
theorem vld_text {vars op n lo hi : Int} {t : ByteArray} {ks : List TPattern} (h : (TPattern.mk op t n lo hi ks).vld vars = true) : t.size ≤ 120 := by
 simp only [TPattern.vld, Bool.and_eq_true, decide_eq_true_eq] at h
 exact h.1.1.2.2.2.2.1
theorem TPattern.least_in {vars : Int} : ∀ t : TPattern, t.vld vars = true → 0 ≤ t.least ∧ t.least ≤ 121 := by
 refine TPattern.ind fun op t n lo hi ks IH => ?_
 intro h
 refine ⟨?_, by simp only [TPattern.least]; omega⟩
 by_cases e2 : op = 2
 ·
  subst e2
  have := vld_num2 h
  simp only [TPattern.least]
  simp
  omega
 by_cases e14 : op = 14
 ·
  subst e14
  obtain ⟨a, b, rfl, ha, hb⟩ := TPattern.kids2 h rfl
  have h1 := IH 0 (by simp) ha
  have h2 := IH 1 (by simp) hb
  simp only [List.getElem_cons_zero, List.getElem_cons_succ] at h1 h2
  simp [TPattern.least, TPattern.leasts]
  omega
 by_cases e15 : op = 15
 ·
  subst e15
  obtain ⟨a, b, rfl, ha, hb⟩ := TPattern.kids2 h rfl
  have h1 := IH 0 (by simp) ha
  have h2 := IH 1 (by simp) hb
  simp only [List.getElem_cons_zero, List.getElem_cons_succ] at h1 h2
  simp [TPattern.least, TPattern.leasts]
  omega
 by_cases e16 : op = 16 ∨ op = 17
 ·
  obtain ⟨a, rfl, ha⟩ := TPattern.kids1 h (by unfold kidsN; rw [if_pos (by omega)])
  have h1 := IH 0 (by simp) ha
  simp only [List.getElem_cons_zero] at h1
  simp only [TPattern.least]
  rw [if_neg (by omega), if_neg e2, if_neg (by omega), if_neg e14, if_neg e15, if_pos e16]
  simp [TPattern.leasts]
  omega
 simp only [TPattern.least]
 rw [if_neg e2, if_neg e14, if_neg e15, if_neg e16]
 split <;> (try split) <;> (try split) <;> omega
abbrev LeastC (f : FuncId) (vars : Int) (t : TPattern) : Prop := ∀ (S : Nat → Prop) (w : World) (vs : List Value), Dat.HoldVals w S t.D vs → t.vld vars = true →
 Calls Try.prog f #[.agg vs.toArray] w fun e w' => e = .returned (.int .i64 t.least) ∧ Bel w w'
set_option maxHeartbeats 1000000 in
theorem leastLength_1 (vars : Int) (t : ByteArray) (n lo hi : Int) (ks : List TPattern) : LeastC 34 vars (.mk 1 t n lo hi ks) := by
 intro S w vs hv hvl
 obtain ⟨A, c, rfl, -, hts, -, -, -, hR⟩ := TPattern.vals hv
 have HR := hide hR
 have hlc := HR.out.1
 have hcm := HR.out.2.1
 simp only [List.length_map, List.length_cons, List.length_nil] at hlc
 unfold maxLen at hcm
 have hL := hide hvl
 clear hR hv hvl
 have hq : t.size ≤ 120 := vld_text hL.out
 go_enter Try.func34, Try.ntmps34
 go_wp2_with (fail)
 all_goals
  go_returns
  exact ⟨ret_i64 (by simp [TPattern.least]; try omega), bl⟩
set_option maxHeartbeats 1000000 in
theorem leastLength_2 (vars : Int) (t : ByteArray) (n lo hi : Int) (ks : List TPattern) : LeastC 34 vars (.mk 2 t n lo hi ks) := by
 intro S w vs hv hvl
 obtain ⟨A, c, rfl, -, hts, -, -, -, hR⟩ := TPattern.vals hv
 have HR := hide hR
 have hlc := HR.out.1
 have hcm := HR.out.2.1
 simp only [List.length_map, List.length_cons, List.length_nil] at hlc
 unfold maxLen at hcm
 have hL := hide hvl
 clear hR hv hvl
 have hq : t.size ≤ 120 := vld_text hL.out
 obtain ⟨hn0, hn1⟩ := vld_num2 hL.out
 go_enter Try.func34, Try.ntmps34
 go_wp2_with (fail)
 all_goals
  go_returns
  exact ⟨ret_i64 (by simp [TPattern.least]; try omega), bl⟩
set_option maxHeartbeats 1000000 in
theorem leastLength_7 (vars : Int) (t : ByteArray) (n lo hi : Int) (ks : List TPattern) : LeastC 34 vars (.mk 7 t n lo hi ks) := by
 intro S w vs hv hvl
 obtain ⟨A, c, rfl, -, hts, -, -, -, hR⟩ := TPattern.vals hv
 have HR := hide hR
 have hlc := HR.out.1
 have hcm := HR.out.2.1
 simp only [List.length_map, List.length_cons, List.length_nil] at hlc
 unfold maxLen at hcm
 have hL := hide hvl
 clear hR hv hvl
 have hq : t.size ≤ 120 := vld_text hL.out
 go_enter Try.func34, Try.ntmps34
 go_wp2_with (fail)
 all_goals
  go_returns
  exact ⟨ret_i64 (by simp [TPattern.least]; try omega), bl⟩
set_option maxHeartbeats 1000000 in
theorem leastLength_8 (vars : Int) (t : ByteArray) (n lo hi : Int) (ks : List TPattern) : LeastC 34 vars (.mk 8 t n lo hi ks) := by
 intro S w vs hv hvl
 obtain ⟨A, c, rfl, -, hts, -, -, -, hR⟩ := TPattern.vals hv
 have HR := hide hR
 have hlc := HR.out.1
 have hcm := HR.out.2.1
 simp only [List.length_map, List.length_cons, List.length_nil] at hlc
 unfold maxLen at hcm
 have hL := hide hvl
 clear hR hv hvl
 have hq : t.size ≤ 120 := vld_text hL.out
 go_enter Try.func34, Try.ntmps34
 go_wp2_with (fail)
 all_goals
  go_returns
  exact ⟨ret_i64 (by simp [TPattern.least]; try omega), bl⟩
set_option maxHeartbeats 1000000 in
theorem leastLength_9 (vars : Int) (t : ByteArray) (n lo hi : Int) (ks : List TPattern) : LeastC 34 vars (.mk 9 t n lo hi ks) := by
 intro S w vs hv hvl
 obtain ⟨A, c, rfl, -, hts, -, -, -, hR⟩ := TPattern.vals hv
 have HR := hide hR
 have hlc := HR.out.1
 have hcm := HR.out.2.1
 simp only [List.length_map, List.length_cons, List.length_nil] at hlc
 unfold maxLen at hcm
 have hL := hide hvl
 clear hR hv hvl
 have hq : t.size ≤ 120 := vld_text hL.out
 go_enter Try.func34, Try.ntmps34
 go_wp2_with (fail)
 all_goals
  go_returns
  exact ⟨ret_i64 (by simp [TPattern.least]; try omega), bl⟩
set_option maxHeartbeats 1000000 in
theorem leastLength_23 (vars : Int) (t : ByteArray) (n lo hi : Int) (ks : List TPattern) : LeastC 34 vars (.mk 23 t n lo hi ks) := by
 intro S w vs hv hvl
 obtain ⟨A, c, rfl, -, hts, -, -, -, hR⟩ := TPattern.vals hv
 have HR := hide hR
 have hlc := HR.out.1
 have hcm := HR.out.2.1
 simp only [List.length_map, List.length_cons, List.length_nil] at hlc
 unfold maxLen at hcm
 have hL := hide hvl
 clear hR hv hvl
 have hq : t.size ≤ 120 := vld_text hL.out
 go_enter Try.func34, Try.ntmps34
 go_wp2_with (fail)
 all_goals
  go_returns
  exact ⟨ret_i64 (by simp [TPattern.least]; try omega), bl⟩
set_option maxHeartbeats 1000000 in
theorem leastLength_x (vars : Int) (t : ByteArray) (n lo hi : Int) (ks : List TPattern) (op : Int) (h1 : ¬ op = 1) (h2 : ¬ op = 2) (h7 : ¬ op = 7) (h8 : ¬ op = 8) (h9 : ¬ op = 9) (h14 : ¬ op = 14) (h15 : ¬ op = 15) (h16 : ¬ op = 16) (h17 : ¬ op = 17) (h23 : ¬ op = 23) : LeastC 34 vars (.mk op t n lo hi ks) := by
 intro S w vs hv hvl
 obtain ⟨A, c, rfl, -, hts, -, -, -, hR⟩ := TPattern.vals hv
 have HR := hide hR
 have hlc := HR.out.1
 have hcm := HR.out.2.1
 simp only [List.length_map, List.length_cons, List.length_nil] at hlc
 unfold maxLen at hcm
 have hL := hide hvl
 clear hR hv hvl
 have b1 : (op == 1) = false := by simp [h1]
 have b2 : (op == 2) = false := by simp [h2]
 have b7 : (op == 7) = false := by simp [h7]
 have b8 : (op == 8) = false := by simp [h8]
 have b9 : (op == 9) = false := by simp [h9]
 have b14 : (op == 14) = false := by simp [h14]
 have b15 : (op == 15) = false := by simp [h15]
 have b16 : (op == 16) = false := by simp [h16]
 have b17 : (op == 17) = false := by simp [h17]
 have b23 : (op == 23) = false := by simp [h23]
 have HE : Hid ((0 : Int) = (TPattern.mk op t n lo hi ks).least) := by show _ = _; simp [TPattern.least, h1, h2, h7, h8, h9, h14, h15, h16, h17, h23]; try omega
 go_enter Try.func34, Try.ntmps34
 go_wp2_with (fail)
 all_goals
  go_returns
  exact ⟨ret_i64 (HE.out), bl⟩
set_option maxHeartbeats 1000000 in
theorem leastLength_14 (vars : Int) (t : ByteArray) (n lo hi : Int) (a b : TPattern) (IHa : LeastC 34 vars a) (IHb : LeastC 34 vars b) : LeastC 34 vars (.mk 14 t n lo hi [a, b]) := by
 intro S w vs hv hvl
 obtain ⟨A, c, rfl, -, hts, -, -, -, hR⟩ := TPattern.vals hv
 have HR := hide hR
 have hlc := HR.out.1
 have hcm := HR.out.2.1
 simp only [List.length_map, List.length_cons, List.length_nil] at hlc
 unfold maxLen at hcm
 have hL := hide hvl
 clear hR hv hvl
 have HA := hide IHa
 have HB := hide IHb
 clear IHa IHb
 have hbw : Bel w w := Bel.refl w
 (obtain ⟨b1, o1, x1_0, x1_1, x1_2, x1_3, x1_4, x1_5, A1_5, C1_5, hA1, hS1, hl1, hx1, hv1, g1_0, g1_1, g1_2, g1_3, g1_4, g1_5, c1_0, c1_1, c1_2, c1_3, c1_4, c1_5⟩ := TPattern.at HR.out 0 (by simp); subst hA1; have HV1 := hide (Dat.HoldVals.bel hbw hv1); have hh1 := hbw.box b1 hl1; have hw1 := Nat.lt_of_lt_of_le hl1 (Bel.size hbw); replace c1_0 := (hh1 _).trans c1_0; replace c1_1 := (hh1 _).trans c1_1; replace c1_2 := (hh1 _).trans c1_2; replace c1_3 := (hh1 _).trans c1_3; replace c1_4 := (hh1 _).trans c1_4; replace c1_5 := (hh1 _).trans c1_5; have HX1 := hide hx1; have GR1_5 := hide g1_5; clear hh1 hv1 hx1 hS1 g1_5; simp only [Nat.zero_mul, Nat.one_mul, Nat.add_zero, Nat.reduceMul, Nat.add_assoc, Nat.reduceAdd] at c1_0 c1_1 c1_2 c1_3 c1_4 c1_5)
 (obtain ⟨b2, o2, x2_0, x2_1, x2_2, x2_3, x2_4, x2_5, A2_5, C2_5, hA2, hS2, hl2, hx2, hv2, g2_0, g2_1, g2_2, g2_3, g2_4, g2_5, c2_0, c2_1, c2_2, c2_3, c2_4, c2_5⟩ := TPattern.at HR.out 1 (by simp); injection Option.some.inj hA2 with qb2 qo2 _; subst qb2 qo2; have HV2 := hide (Dat.HoldVals.bel hbw hv2); have hh2 := hbw.box b1 hl2; have hw2 := Nat.lt_of_lt_of_le hl2 (Bel.size hbw); replace c2_0 := (hh2 _).trans c2_0; replace c2_1 := (hh2 _).trans c2_1; replace c2_2 := (hh2 _).trans c2_2; replace c2_3 := (hh2 _).trans c2_3; replace c2_4 := (hh2 _).trans c2_4; replace c2_5 := (hh2 _).trans c2_5; have HX2 := hide hx2; have GR2_5 := hide g2_5; clear hh2 hv2 hx2 hS2 g2_5; simp only [Nat.zero_mul, Nat.one_mul, Nat.add_zero, Nat.reduceMul, Nat.add_assoc, Nat.reduceAdd] at c2_0 c2_1 c2_2 c2_3 c2_4 c2_5)
 have HVa : Hid (Dat.HoldVals w S a.D _) := HV1
 have HVb : Hid (Dat.HoldVals w S b.D _) := HV2
 obtain ⟨hla, hlb⟩ := TPattern.vld2 hL.out
 obtain ⟨ma, ma'⟩ := TPattern.least_in a hla
 obtain ⟨mb, mb'⟩ := TPattern.least_in b hlb
 clear HV1 HV2 hbw
 have hne : ¬ b1 = w.heap.size := by omega
 go_enter Try.func34, Try.ntmps34
 go_wp2_with (fail)
 go_region_held3 (fun w' => w'.cell? ⟨w.heap.size, 5, none⟩ = some (.slice (some ⟨b1, o1, none⟩) [a, b].length c) ∧ w'.cell? ⟨b1, o1, none⟩ = some (.int .i64 x1_0) ∧ w'.cell? ⟨b1, o1 + 1, none⟩ = some (.string x1_1) ∧ w'.cell? ⟨b1, o1 + 2, none⟩ = some (.int .i64 x1_2) ∧ w'.cell? ⟨b1, o1 + 3, none⟩ = some (.int .i64 x1_3) ∧ w'.cell? ⟨b1, o1 + 4, none⟩ = some (.int .i64 x1_4) ∧ w'.cell? ⟨b1, o1 + 5, none⟩ = some (.slice A1_5 x1_5.length C1_5) ∧ w'.cell? ⟨b1, o1 + 6, none⟩ = some (.int .i64 x2_0) ∧ w'.cell? ⟨b1, o1 + 7, none⟩ = some (.string x2_1) ∧ w'.cell? ⟨b1, o1 + 8, none⟩ = some (.int .i64 x2_2) ∧ w'.cell? ⟨b1, o1 + 9, none⟩ = some (.int .i64 x2_3) ∧ w'.cell? ⟨b1, o1 + 10, none⟩ = some (.int .i64 x2_4) ∧ w'.cell? ⟨b1, o1 + 11, none⟩ = some (.slice A2_5 x2_5.length C2_5)) (go_keep) (first
  | (go_at_call 34; (with_reducible refine (HA.out S _ _ (Dat.HoldVals.bel bl HVa.out) hla).mono ?_); rintro e w1 ⟨rfl, hb1⟩; (have hz1 := hb1.sz; obtain ⟨hk1_0, hf1_0, hl1_0, hn1_0⟩ := hb1.lay (w.heap.size); obtain ⟨hk1_1, hf1_1, hl1_1, hn1_1⟩ := hb1.lay (b1)))
  | (go_at_call 34; (with_reducible refine (HB.out S _ _ (Dat.HoldVals.bel bl HVb.out) hlb).mono ?_); rintro e w2 ⟨rfl, hb2⟩; (have hz2 := hb2.sz; obtain ⟨hk2_0, hf2_0, hl2_0, hn2_0⟩ := hb2.lay (w.heap.size); obtain ⟨hk2_1, hf2_1, hl2_1, hn2_1⟩ := hb2.lay (b1))))
 all_goals (go_wp2_with (fail))
 all_goals go_returns
 all_goals exact ⟨ret_i64 (by simp [TPattern.least, TPattern.leasts]; try omega), bl⟩
set_option maxHeartbeats 1000000 in
theorem leastLength_15 (vars : Int) (t : ByteArray) (n lo hi : Int) (a b : TPattern) (IHa : LeastC 34 vars a) (IHb : LeastC 34 vars b) : LeastC 34 vars (.mk 15 t n lo hi [a, b]) := by
 intro S w vs hv hvl
 obtain ⟨A, c, rfl, -, hts, -, -, -, hR⟩ := TPattern.vals hv
 have HR := hide hR
 have hlc := HR.out.1
 have hcm := HR.out.2.1
 simp only [List.length_map, List.length_cons, List.length_nil] at hlc
 unfold maxLen at hcm
 have hL := hide hvl
 clear hR hv hvl
 have HA := hide IHa
 have HB := hide IHb
 clear IHa IHb
 have hbw : Bel w w := Bel.refl w
 (obtain ⟨b1, o1, x1_0, x1_1, x1_2, x1_3, x1_4, x1_5, A1_5, C1_5, hA1, hS1, hl1, hx1, hv1, g1_0, g1_1, g1_2, g1_3, g1_4, g1_5, c1_0, c1_1, c1_2, c1_3, c1_4, c1_5⟩ := TPattern.at HR.out 0 (by simp); subst hA1; have HV1 := hide (Dat.HoldVals.bel hbw hv1); have hh1 := hbw.box b1 hl1; have hw1 := Nat.lt_of_lt_of_le hl1 (Bel.size hbw); replace c1_0 := (hh1 _).trans c1_0; replace c1_1 := (hh1 _).trans c1_1; replace c1_2 := (hh1 _).trans c1_2; replace c1_3 := (hh1 _).trans c1_3; replace c1_4 := (hh1 _).trans c1_4; replace c1_5 := (hh1 _).trans c1_5; have HX1 := hide hx1; have GR1_5 := hide g1_5; clear hh1 hv1 hx1 hS1 g1_5; simp only [Nat.zero_mul, Nat.one_mul, Nat.add_zero, Nat.reduceMul, Nat.add_assoc, Nat.reduceAdd] at c1_0 c1_1 c1_2 c1_3 c1_4 c1_5)
 (obtain ⟨b2, o2, x2_0, x2_1, x2_2, x2_3, x2_4, x2_5, A2_5, C2_5, hA2, hS2, hl2, hx2, hv2, g2_0, g2_1, g2_2, g2_3, g2_4, g2_5, c2_0, c2_1, c2_2, c2_3, c2_4, c2_5⟩ := TPattern.at HR.out 1 (by simp); injection Option.some.inj hA2 with qb2 qo2 _; subst qb2 qo2; have HV2 := hide (Dat.HoldVals.bel hbw hv2); have hh2 := hbw.box b1 hl2; have hw2 := Nat.lt_of_lt_of_le hl2 (Bel.size hbw); replace c2_0 := (hh2 _).trans c2_0; replace c2_1 := (hh2 _).trans c2_1; replace c2_2 := (hh2 _).trans c2_2; replace c2_3 := (hh2 _).trans c2_3; replace c2_4 := (hh2 _).trans c2_4; replace c2_5 := (hh2 _).trans c2_5; have HX2 := hide hx2; have GR2_5 := hide g2_5; clear hh2 hv2 hx2 hS2 g2_5; simp only [Nat.zero_mul, Nat.one_mul, Nat.add_zero, Nat.reduceMul, Nat.add_assoc, Nat.reduceAdd] at c2_0 c2_1 c2_2 c2_3 c2_4 c2_5)
 have HVa : Hid (Dat.HoldVals w S a.D _) := HV1
 have HVb : Hid (Dat.HoldVals w S b.D _) := HV2
 obtain ⟨hla, hlb⟩ := TPattern.vld2 hL.out
 obtain ⟨ma, ma'⟩ := TPattern.least_in a hla
 obtain ⟨mb, mb'⟩ := TPattern.least_in b hlb
 clear HV1 HV2 hbw
 have hne : ¬ b1 = w.heap.size := by omega
 go_enter Try.func34, Try.ntmps34
 go_wp2_with (fail)
 go_region_held3 (fun w' => w'.cell? ⟨w.heap.size, 5, none⟩ = some (.slice (some ⟨b1, o1, none⟩) [a, b].length c) ∧ w'.cell? ⟨b1, o1, none⟩ = some (.int .i64 x1_0) ∧ w'.cell? ⟨b1, o1 + 1, none⟩ = some (.string x1_1) ∧ w'.cell? ⟨b1, o1 + 2, none⟩ = some (.int .i64 x1_2) ∧ w'.cell? ⟨b1, o1 + 3, none⟩ = some (.int .i64 x1_3) ∧ w'.cell? ⟨b1, o1 + 4, none⟩ = some (.int .i64 x1_4) ∧ w'.cell? ⟨b1, o1 + 5, none⟩ = some (.slice A1_5 x1_5.length C1_5) ∧ w'.cell? ⟨b1, o1 + 6, none⟩ = some (.int .i64 x2_0) ∧ w'.cell? ⟨b1, o1 + 7, none⟩ = some (.string x2_1) ∧ w'.cell? ⟨b1, o1 + 8, none⟩ = some (.int .i64 x2_2) ∧ w'.cell? ⟨b1, o1 + 9, none⟩ = some (.int .i64 x2_3) ∧ w'.cell? ⟨b1, o1 + 10, none⟩ = some (.int .i64 x2_4) ∧ w'.cell? ⟨b1, o1 + 11, none⟩ = some (.slice A2_5 x2_5.length C2_5)) (go_keep) (first
  | (go_at_call 34; (with_reducible refine (HA.out S _ _ (Dat.HoldVals.bel bl HVa.out) hla).mono ?_); rintro e w1 ⟨rfl, hb1⟩; (have hz1 := hb1.sz; obtain ⟨hk1_0, hf1_0, hl1_0, hn1_0⟩ := hb1.lay (w.heap.size); obtain ⟨hk1_1, hf1_1, hl1_1, hn1_1⟩ := hb1.lay (b1)))
  | (go_at_call 34; (with_reducible refine (HB.out S _ _ (Dat.HoldVals.bel bl HVb.out) hlb).mono ?_); rintro e w2 ⟨rfl, hb2⟩; (have hz2 := hb2.sz; obtain ⟨hk2_0, hf2_0, hl2_0, hn2_0⟩ := hb2.lay (w.heap.size); obtain ⟨hk2_1, hf2_1, hl2_1, hn2_1⟩ := hb2.lay (b1))))
 all_goals (go_wp2_with (fail))
 all_goals go_returns
 all_goals exact ⟨ret_i64 (by simp [TPattern.least, TPattern.leasts]; try omega), bl⟩
set_option maxHeartbeats 1000000 in
theorem leastLength_16 (vars : Int) (t : ByteArray) (n lo hi : Int) (a : TPattern) (IHa : LeastC 34 vars a) : LeastC 34 vars (.mk 16 t n lo hi [a]) := by
 intro S w vs hv hvl
 obtain ⟨A, c, rfl, -, hts, -, -, -, hR⟩ := TPattern.vals hv
 have HR := hide hR
 have hlc := HR.out.1
 have hcm := HR.out.2.1
 simp only [List.length_map, List.length_cons, List.length_nil] at hlc
 unfold maxLen at hcm
 have hL := hide hvl
 clear hR hv hvl
 have HA := hide IHa
 clear IHa
 have hbw : Bel w w := Bel.refl w
 (obtain ⟨b1, o1, x1_0, x1_1, x1_2, x1_3, x1_4, x1_5, A1_5, C1_5, hA1, hS1, hl1, hx1, hv1, g1_0, g1_1, g1_2, g1_3, g1_4, g1_5, c1_0, c1_1, c1_2, c1_3, c1_4, c1_5⟩ := TPattern.at HR.out 0 (by simp); subst hA1; have HV1 := hide (Dat.HoldVals.bel hbw hv1); have hh1 := hbw.box b1 hl1; have hw1 := Nat.lt_of_lt_of_le hl1 (Bel.size hbw); replace c1_0 := (hh1 _).trans c1_0; replace c1_1 := (hh1 _).trans c1_1; replace c1_2 := (hh1 _).trans c1_2; replace c1_3 := (hh1 _).trans c1_3; replace c1_4 := (hh1 _).trans c1_4; replace c1_5 := (hh1 _).trans c1_5; have HX1 := hide hx1; have GR1_5 := hide g1_5; clear hh1 hv1 hx1 hS1 g1_5; simp only [Nat.zero_mul, Nat.one_mul, Nat.add_zero, Nat.reduceMul, Nat.add_assoc, Nat.reduceAdd] at c1_0 c1_1 c1_2 c1_3 c1_4 c1_5)
 have HVa : Hid (Dat.HoldVals w S a.D _) := HV1
 have hla := TPattern.vld1 hL.out
 obtain ⟨ma, ma'⟩ := TPattern.least_in a hla
 clear HV1 hbw
 have hne : ¬ b1 = w.heap.size := by omega
 go_enter Try.func34, Try.ntmps34
 go_wp2_with (fail)
 refine (HA.out S _ _ (Dat.HoldVals.bel bl HVa.out) hla).mono ?_
 rintro e w1 ⟨rfl, hb1⟩
 go_wp2_with (fail)
 all_goals
  go_returns
  exact ⟨ret_i64 (by simp [TPattern.least, TPattern.leasts]; try omega), bl⟩
set_option maxHeartbeats 1000000 in
theorem leastLength_17 (vars : Int) (t : ByteArray) (n lo hi : Int) (a : TPattern) (IHa : LeastC 34 vars a) : LeastC 34 vars (.mk 17 t n lo hi [a]) := by
 intro S w vs hv hvl
 obtain ⟨A, c, rfl, -, hts, -, -, -, hR⟩ := TPattern.vals hv
 have HR := hide hR
 have hlc := HR.out.1
 have hcm := HR.out.2.1
 simp only [List.length_map, List.length_cons, List.length_nil] at hlc
 unfold maxLen at hcm
 have hL := hide hvl
 clear hR hv hvl
 have HA := hide IHa
 clear IHa
 have hbw : Bel w w := Bel.refl w
 (obtain ⟨b1, o1, x1_0, x1_1, x1_2, x1_3, x1_4, x1_5, A1_5, C1_5, hA1, hS1, hl1, hx1, hv1, g1_0, g1_1, g1_2, g1_3, g1_4, g1_5, c1_0, c1_1, c1_2, c1_3, c1_4, c1_5⟩ := TPattern.at HR.out 0 (by simp); subst hA1; have HV1 := hide (Dat.HoldVals.bel hbw hv1); have hh1 := hbw.box b1 hl1; have hw1 := Nat.lt_of_lt_of_le hl1 (Bel.size hbw); replace c1_0 := (hh1 _).trans c1_0; replace c1_1 := (hh1 _).trans c1_1; replace c1_2 := (hh1 _).trans c1_2; replace c1_3 := (hh1 _).trans c1_3; replace c1_4 := (hh1 _).trans c1_4; replace c1_5 := (hh1 _).trans c1_5; have HX1 := hide hx1; have GR1_5 := hide g1_5; clear hh1 hv1 hx1 hS1 g1_5; simp only [Nat.zero_mul, Nat.one_mul, Nat.add_zero, Nat.reduceMul, Nat.add_assoc, Nat.reduceAdd] at c1_0 c1_1 c1_2 c1_3 c1_4 c1_5)
 have HVa : Hid (Dat.HoldVals w S a.D _) := HV1
 have hla := TPattern.vld1 hL.out
 obtain ⟨ma, ma'⟩ := TPattern.least_in a hla
 clear HV1 hbw
 have hne : ¬ b1 = w.heap.size := by omega
 go_enter Try.func34, Try.ntmps34
 go_wp2_with (fail)
 refine (HA.out S _ _ (Dat.HoldVals.bel bl HVa.out) hla).mono ?_
 rintro e w1 ⟨rfl, hb1⟩
 go_wp2_with (fail)
 all_goals
  go_returns
  exact ⟨ret_i64 (by simp [TPattern.least, TPattern.leasts]; try omega), bl⟩
theorem leastLength_any (vars : Int) : ∀ t : TPattern, LeastC 34 vars t := by
 refine TPattern.ind fun op t n lo hi ks IH => ?_
 intro S w vs hv hvl
 by_cases h1 : op = 1
 ·
  subst h1; exact leastLength_1 vars t n lo hi ks S w vs hv hvl
 by_cases h2 : op = 2
 ·
  subst h2; exact leastLength_2 vars t n lo hi ks S w vs hv hvl
 by_cases h7 : op = 7
 ·
  subst h7; exact leastLength_7 vars t n lo hi ks S w vs hv hvl
 by_cases h8 : op = 8
 ·
  subst h8; exact leastLength_8 vars t n lo hi ks S w vs hv hvl
 by_cases h9 : op = 9
 ·
  subst h9; exact leastLength_9 vars t n lo hi ks S w vs hv hvl
 by_cases h23 : op = 23
 ·
  subst h23; exact leastLength_23 vars t n lo hi ks S w vs hv hvl
 by_cases h14 : op = 14
 ·
  subst h14
  obtain ⟨a, b, rfl, -, -⟩ := TPattern.kids2 hvl rfl
  exact leastLength_14 vars t n lo hi a b (IH 0 (by simp)) (IH 1 (by simp)) S w vs hv hvl
 by_cases h15 : op = 15
 ·
  subst h15
  obtain ⟨a, b, rfl, -, -⟩ := TPattern.kids2 hvl rfl
  exact leastLength_15 vars t n lo hi a b (IH 0 (by simp)) (IH 1 (by simp)) S w vs hv hvl
 by_cases h16 : op = 16
 ·
  subst h16
  obtain ⟨a, rfl, -⟩ := TPattern.kids1 hvl rfl
  exact leastLength_16 vars t n lo hi a (IH 0 (by simp)) S w vs hv hvl
 by_cases h17 : op = 17
 ·
  subst h17
  obtain ⟨a, rfl, -⟩ := TPattern.kids1 hvl rfl
  exact leastLength_17 vars t n lo hi a (IH 0 (by simp)) S w vs hv hvl
 exact leastLength_x vars t n lo hi ks op h1 h2 h7 h8 h9 h14 h15 h16 h17 h23 S w vs hv hvl
end Go.Proofs.Ytdjbfneniohaaaa
