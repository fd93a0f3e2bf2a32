/- The first bytes of a valid pattern, both sides. -/
import Derived.Test.YtdjbfneniohaaaaPP10
import Derived.Test.YtdjbfneniohaaaaPB
namespace Go.Proofs.Ytdjbfneniohaaaa
set_option linter.unusedVariables false
set_option linter.unusedSimpArgs false
set_option maxRecDepth 100000
open Go.RowKit
theorem ns1 (s : ByteArray) (h : s.size = 1) : ns s 0 0 0 = if byteAt s 0 ≤ 127 then some (addLo 0 (byteAt s 0), addHi 0 (byteAt s 0)) else none := by
 unfold ns
 rw [show s.size - 0 = 0 + 1 by omega, nsF]
 split
 ·
  rw [nsF]
 ·
  rfl
structure FB where
 lo : Int
 hi : Int
 any : Bool
def fbT (t : ByteArray) : FB := if t.size = 0 then ⟨0, 0, true⟩ else ⟨nsLo (t.extract 0 1), nsHi (t.extract 0 1), !nsOk (t.extract 0 1)⟩
theorem head_size {t : ByteArray} (h : 0 < t.size) : (t.extract 0 1).size = 1 := by
 rw [ByteArray.size_extract]; omega
theorem head_byte {t : ByteArray} (h : 0 < t.size) : byteAt (t.extract 0 1) 0 = byteAt t 0 := by
 have h1 : 0 < (t.extract 0 1).size := by rw [head_size h]; omega
 rw [← byteAt_eq _ 0 h1, ← byteAt_eq _ 0 h, ByteArray.getElem_extract]
theorem fbT_lo {t : ByteArray} (h : 0 < t.size) (hb : byteAt t 0 ≤ 127) : nsOk (t.extract 0 1) = true := by
 unfold nsOk
 rw [ns1 _ (head_size h), head_byte h, if_pos hb]; rfl
theorem fbT_hi {t : ByteArray} (h : 0 < t.size) (hb : ¬ byteAt t 0 ≤ 127) : nsOk (t.extract 0 1) = false ∧ nsLo (t.extract 0 1) = 0 ∧ nsHi (t.extract 0 1) = 0 := by
 unfold nsOk nsLo nsHi
 rw [ns1 _ (head_size h), head_byte h, if_neg hb]; exact ⟨rfl, rfl, rfl⟩
mutual
def TPattern.fb : TPattern → FB
 | .mk op t _ lo hi ks => if op = 1 then fbT t else if op = 7 ∨ op = 9 then ⟨lo, hi, false⟩ else if op = 14 ∨ op = 16 ∨ op = 17 then (TPattern.fbs ks).getD 0 ⟨0, 0, true⟩
   else if op = 15 then (if ((TPattern.fbs ks).getD 0 ⟨0, 0, true⟩).any = true ∨ ((TPattern.fbs ks).getD 1 ⟨0, 0, true⟩).any = true then ⟨0, 0, true⟩ else
    ⟨bits .or .i64 ((TPattern.fbs ks).getD 0 ⟨0, 0, true⟩).lo ((TPattern.fbs ks).getD 1 ⟨0, 0, true⟩).lo, bits .or .i64 ((TPattern.fbs ks).getD 0 ⟨0, 0, true⟩).hi ((TPattern.fbs ks).getD 1 ⟨0, 0, true⟩).hi, false⟩)
   else if op = 23 then ⟨0, 0, false⟩ else ⟨0, 0, true⟩
def TPattern.fbs : List TPattern → List FB
 | [] => []
 | x :: r => TPattern.fb x :: TPattern.fbs r
end
abbrev FirstC (f : FuncId) (vars : Int) (t : TPattern) : Prop := ∀ (S : Nat → Prop) (w : World) (vs : List Value), Dat.HoldVals w S t.D vs → t.vld vars = true →
 Calls Try.prog f #[.agg vs.toArray] w fun e w' => e = .returned (.tuple #[.agg #[.int .i64 t.fb.lo, .int .i64 t.fb.hi], .bool t.fb.any]) ∧ Bel w w'
set_option maxHeartbeats 2000000 in
theorem l21First_1 (vars : Int) (t : ByteArray) (n lo hi : Int) (ks : List TPattern) : FirstC 37 vars (.mk 1 t n lo hi ks) := by
 intro S w vs hv hvl
 obtain ⟨A, c, rfl, -, hts, -, -, -, hR⟩ := TPattern.vals hv
 have HR := hide hR
 have hlc := HR.out.1
 have hcm := HR.out.2.1
 simp only [List.length_map, List.length_cons, List.length_nil] at hlc
 unfold maxLen at hcm
 have hL := hide hvl
 clear hR hv hvl
 by_cases h0 : t.size = 0
 ·
  have HE : Hid ((TPattern.mk 1 t n lo hi ks).fb = ⟨0, 0, true⟩) := by show _ = _; simp [TPattern.fb, fbT, h0]
  have d0 : decide ((0 : Int) < (t.size : Int)) = false := by rw [decide_eq_false_iff_not]; omega
  have d0n : decide (0 < t.size) = false := by rw [decide_eq_false_iff_not]; omega
  have hemp := tlE.2 h0
  have hemp1 : (!t.toList.isEmpty) = false := by rw [hemp]; rfl
  have H0 := hide h0
  clear h0
  go_enter Try.func37, Try.ntmps37
  go_wp2_with (fail)
  all_goals exact bodyPost_ret (v := .tuple #[.agg #[.int .i64 0, .int .i64 0], .bool true]) (by simp [results, Try.results37, go_sem]) rfl ⟨by rw [HE.out], bl⟩
 have d0 : decide ((0 : Int) < (t.size : Int)) = true := by rw [decide_eq_true_eq]; omega
 have d0n : decide (0 < t.size) = true := by rw [decide_eq_true_eq]; omega
 have hemp : t.toList.isEmpty = false := by have := fun e => h0 (tlE.1 e); simpa using this
 have hemp1 : (!t.toList.isEmpty) = true := by rw [hemp]; rfl
 have hps : 0 < t.size := by omega
 have hsz : (t.extract 0 1).size ≤ maxLen := by rw [head_size hps]; unfold maxLen; omega
 have HZ := hide hsz
 clear hsz
 have hge : (1 : Int) ≤ (t.size : Int) := by omega
 have hts2 := hts
 unfold maxLen at hts2
 have HB := hide (byteAt_eq t 0 hps)
 by_cases hb : byteAt t 0 ≤ 127
 ·
  have h3 : t[0].toNat ≤ 127 := by rw [HB.out]; exact hb
  have HE : Hid ((TPattern.mk 1 t n lo hi ks).fb = ⟨nsLo (t.extract 0 1), nsHi (t.extract 0 1), false⟩) := by show _ = _; simp [TPattern.fb, fbT, h0, fbT_lo hps hb]
  have HK := hide (fbT_lo hps hb)
  clear h0 hb
  go_enter Try.func37, Try.ntmps37
  go_wp2_with (fail)
  refine (specNewCset_any _ _ HZ.out).mono ?_
  rintro e w1 ⟨rfl, hb1⟩
  rw [HK.out]
  (have hz1 := hb1.sz; obtain ⟨hk1_0, hf1_0, hl1_0, hn1_0⟩ := hb1.lay (w.heap.size); obtain ⟨hk1_1, hf1_1, hl1_1, hn1_1⟩ := hb1.lay (w.heap.size + 1))
  go_wp2_with (fail)
  all_goals exact bodyPost_ret (v := .tuple #[.agg #[.int .i64 (nsLo (t.extract 0 1)), .int .i64 (nsHi (t.extract 0 1))], .bool false]) (by simp [results, Try.results37, go_sem, hk1_1, hf1_1, hn1_1, hl1_1]) rfl ⟨by rw [HE.out], bl⟩
 ·
  have h3 : 127 < t[0].toNat := by rw [HB.out]; omega
  have HE : Hid ((TPattern.mk 1 t n lo hi ks).fb = ⟨0, 0, true⟩) := by show _ = _; simp [TPattern.fb, fbT, h0, fbT_hi hps hb]
  have HK := hide (fbT_hi hps hb)
  clear h0 hb
  go_enter Try.func37, Try.ntmps37
  go_wp2_with (fail)
  refine (specNewCset_any _ _ HZ.out).mono ?_
  rintro e w1 ⟨rfl, hb1⟩
  rw [HK.out.1, HK.out.2.1, HK.out.2.2]
  (have hz1 := hb1.sz; obtain ⟨hk1_0, hf1_0, hl1_0, hn1_0⟩ := hb1.lay (w.heap.size); obtain ⟨hk1_1, hf1_1, hl1_1, hn1_1⟩ := hb1.lay (w.heap.size + 1))
  go_wp2_with (fail)
  all_goals exact bodyPost_ret (v := .tuple #[.agg #[.int .i64 0, .int .i64 0], .bool true]) (by simp [results, Try.results37, go_sem, hk1_1, hf1_1, hn1_1, hl1_1]) rfl ⟨by rw [HE.out], bl⟩
set_option maxHeartbeats 2000000 in
theorem l21First_7 (vars : Int) (t : ByteArray) (n lo hi : Int) (ks : List TPattern) : FirstC 37 vars (.mk 7 t n lo hi ks) := by
 intro S w vs hv hvl
 obtain ⟨A, c, rfl, -, hts, -, -, -, hR⟩ := TPattern.vals hv
 have HR := hide hR
 have hlc := HR.out.1
 have hcm := HR.out.2.1
 simp only [List.length_map, List.length_cons, List.length_nil] at hlc
 unfold maxLen at hcm
 have hL := hide hvl
 clear hR hv hvl
 have HE : Hid ((TPattern.mk 7 t n lo hi ks).fb = ⟨lo, hi, false⟩) := by show _ = _; simp [TPattern.fb]
 go_enter Try.func37, Try.ntmps37
 go_wp2_with (fail)
 all_goals exact bodyPost_ret (v := .tuple #[.agg #[.int .i64 lo, .int .i64 hi], .bool false]) (by simp [results, Try.results37, go_sem]) rfl ⟨by rw [HE.out], bl⟩
set_option maxHeartbeats 2000000 in
theorem l21First_9 (vars : Int) (t : ByteArray) (n lo hi : Int) (ks : List TPattern) : FirstC 37 vars (.mk 9 t n lo hi ks) := by
 intro S w vs hv hvl
 obtain ⟨A, c, rfl, -, hts, -, -, -, hR⟩ := TPattern.vals hv
 have HR := hide hR
 have hlc := HR.out.1
 have hcm := HR.out.2.1
 simp only [List.length_map, List.length_cons, List.length_nil] at hlc
 unfold maxLen at hcm
 have hL := hide hvl
 clear hR hv hvl
 have HE : Hid ((TPattern.mk 9 t n lo hi ks).fb = ⟨lo, hi, false⟩) := by show _ = _; simp [TPattern.fb]
 go_enter Try.func37, Try.ntmps37
 go_wp2_with (fail)
 all_goals exact bodyPost_ret (v := .tuple #[.agg #[.int .i64 lo, .int .i64 hi], .bool false]) (by simp [results, Try.results37, go_sem]) rfl ⟨by rw [HE.out], bl⟩
set_option maxHeartbeats 2000000 in
theorem l21First_23 (vars : Int) (t : ByteArray) (n lo hi : Int) (ks : List TPattern) : FirstC 37 vars (.mk 23 t n lo hi ks) := by
 intro S w vs hv hvl
 obtain ⟨A, c, rfl, -, hts, -, -, -, hR⟩ := TPattern.vals hv
 have HR := hide hR
 have hlc := HR.out.1
 have hcm := HR.out.2.1
 simp only [List.length_map, List.length_cons, List.length_nil] at hlc
 unfold maxLen at hcm
 have hL := hide hvl
 clear hR hv hvl
 have HE : Hid ((TPattern.mk 23 t n lo hi ks).fb = ⟨0, 0, false⟩) := by show _ = _; simp [TPattern.fb]
 go_enter Try.func37, Try.ntmps37
 go_wp2_with (fail)
 all_goals exact bodyPost_ret (v := .tuple #[.agg #[.int .i64 0, .int .i64 0], .bool false]) (by simp [results, Try.results37, go_sem]) rfl ⟨by rw [HE.out], bl⟩
set_option maxHeartbeats 2000000 in
theorem l21First_x (vars : Int) (t : ByteArray) (n lo hi : Int) (ks : List TPattern) (op : Int) (h1 : ¬ op = 1) (h7 : ¬ op = 7) (h9 : ¬ op = 9) (h14 : ¬ op = 14) (h15 : ¬ op = 15) (h16 : ¬ op = 16) (h17 : ¬ op = 17) (h23 : ¬ op = 23) : FirstC 37 vars (.mk op t n lo hi ks) := by
 intro S w vs hv hvl
 obtain ⟨A, c, rfl, -, hts, -, -, -, hR⟩ := TPattern.vals hv
 have HR := hide hR
 have hlc := HR.out.1
 have hcm := HR.out.2.1
 simp only [List.length_map, List.length_cons, List.length_nil] at hlc
 unfold maxLen at hcm
 have hL := hide hvl
 clear hR hv hvl
 have b1 : (op == 1) = false := by simp [h1]
 have b7 : (op == 7) = false := by simp [h7]
 have b9 : (op == 9) = false := by simp [h9]
 have b14 : (op == 14) = false := by simp [h14]
 have b15 : (op == 15) = false := by simp [h15]
 have b16 : (op == 16) = false := by simp [h16]
 have b17 : (op == 17) = false := by simp [h17]
 have b23 : (op == 23) = false := by simp [h23]
 have HE : Hid ((TPattern.mk op t n lo hi ks).fb = ⟨0, 0, true⟩) := by show _ = _; simp [TPattern.fb, h1, h7, h9, h14, h15, h16, h17, h23]
 go_enter Try.func37, Try.ntmps37
 go_wp2_with (fail)
 all_goals exact bodyPost_ret (v := .tuple #[.agg #[.int .i64 0, .int .i64 0], .bool true]) (by simp [results, Try.results37, go_sem]) rfl ⟨by rw [HE.out], bl⟩
set_option maxHeartbeats 2000000 in
theorem l21First_16 (vars : Int) (t : ByteArray) (n lo hi : Int) (a : TPattern) (IHa : FirstC 37 vars a) : FirstC 37 vars (.mk 16 t n lo hi [a]) := by
 intro S w vs hv hvl
 obtain ⟨A, c, rfl, -, hts, -, -, -, hR⟩ := TPattern.vals hv
 have HR := hide hR
 have hlc := HR.out.1
 have hcm := HR.out.2.1
 simp only [List.length_map, List.length_cons, List.length_nil] at hlc
 unfold maxLen at hcm
 have hL := hide hvl
 clear hR hv hvl
 have HA := hide IHa
 clear IHa
 have hbw : Bel w w := Bel.refl w
 (obtain ⟨b1, o1, x1_0, x1_1, x1_2, x1_3, x1_4, x1_5, A1_5, C1_5, hA1, hS1, hl1, hx1, hv1, g1_0, g1_1, g1_2, g1_3, g1_4, g1_5, c1_0, c1_1, c1_2, c1_3, c1_4, c1_5⟩ := TPattern.at HR.out 0 (by simp); subst hA1; have HV1 := hide (Dat.HoldVals.bel hbw hv1); have hh1 := hbw.box b1 hl1; have hw1 := Nat.lt_of_lt_of_le hl1 (Bel.size hbw); replace c1_0 := (hh1 _).trans c1_0; replace c1_1 := (hh1 _).trans c1_1; replace c1_2 := (hh1 _).trans c1_2; replace c1_3 := (hh1 _).trans c1_3; replace c1_4 := (hh1 _).trans c1_4; replace c1_5 := (hh1 _).trans c1_5; have HX1 := hide hx1; have GR1_5 := hide g1_5; clear hh1 hv1 hx1 hS1 g1_5; simp only [Nat.zero_mul, Nat.one_mul, Nat.add_zero, Nat.reduceMul, Nat.add_assoc, Nat.reduceAdd] at c1_0 c1_1 c1_2 c1_3 c1_4 c1_5)
 have HVa : Hid (Dat.HoldVals w S a.D _) := HV1
 have hla := TPattern.vld1 hL.out
 clear HV1 hbw
 have hne : ¬ b1 = w.heap.size := by omega
 have hne2 : ¬ b1 = w.heap.size + 1 := by omega
 have HE : Hid ((TPattern.mk 16 t n lo hi [a]).fb = a.fb) := by show _ = _; simp [TPattern.fb, TPattern.fbs]
 go_enter Try.func37, Try.ntmps37
 go_wp2_with (fail)
 refine (HA.out S _ _ (Dat.HoldVals.bel bl HVa.out) hla).mono ?_
 rintro e w1 ⟨rfl, hb1⟩
 (have hz1 := hb1.sz; obtain ⟨hk1_0, hf1_0, hl1_0, hn1_0⟩ := hb1.lay (w.heap.size); obtain ⟨hk1_1, hf1_1, hl1_1, hn1_1⟩ := hb1.lay (w.heap.size + 1))
 go_wp2_with (fail)
 all_goals exact bodyPost_ret (v := .tuple #[.agg #[.int .i64 a.fb.lo, .int .i64 a.fb.hi], .bool a.fb.any]) (by simp [results, Try.results37, go_sem, hk1_1, hf1_1, hn1_1, hl1_1]) rfl ⟨by rw [HE.out], bl⟩
set_option maxHeartbeats 2000000 in
theorem l21First_17 (vars : Int) (t : ByteArray) (n lo hi : Int) (a : TPattern) (IHa : FirstC 37 vars a) : FirstC 37 vars (.mk 17 t n lo hi [a]) := by
 intro S w vs hv hvl
 obtain ⟨A, c, rfl, -, hts, -, -, -, hR⟩ := TPattern.vals hv
 have HR := hide hR
 have hlc := HR.out.1
 have hcm := HR.out.2.1
 simp only [List.length_map, List.length_cons, List.length_nil] at hlc
 unfold maxLen at hcm
 have hL := hide hvl
 clear hR hv hvl
 have HA := hide IHa
 clear IHa
 have hbw : Bel w w := Bel.refl w
 (obtain ⟨b1, o1, x1_0, x1_1, x1_2, x1_3, x1_4, x1_5, A1_5, C1_5, hA1, hS1, hl1, hx1, hv1, g1_0, g1_1, g1_2, g1_3, g1_4, g1_5, c1_0, c1_1, c1_2, c1_3, c1_4, c1_5⟩ := TPattern.at HR.out 0 (by simp); subst hA1; have HV1 := hide (Dat.HoldVals.bel hbw hv1); have hh1 := hbw.box b1 hl1; have hw1 := Nat.lt_of_lt_of_le hl1 (Bel.size hbw); replace c1_0 := (hh1 _).trans c1_0; replace c1_1 := (hh1 _).trans c1_1; replace c1_2 := (hh1 _).trans c1_2; replace c1_3 := (hh1 _).trans c1_3; replace c1_4 := (hh1 _).trans c1_4; replace c1_5 := (hh1 _).trans c1_5; have HX1 := hide hx1; have GR1_5 := hide g1_5; clear hh1 hv1 hx1 hS1 g1_5; simp only [Nat.zero_mul, Nat.one_mul, Nat.add_zero, Nat.reduceMul, Nat.add_assoc, Nat.reduceAdd] at c1_0 c1_1 c1_2 c1_3 c1_4 c1_5)
 have HVa : Hid (Dat.HoldVals w S a.D _) := HV1
 have hla := TPattern.vld1 hL.out
 clear HV1 hbw
 have hne : ¬ b1 = w.heap.size := by omega
 have hne2 : ¬ b1 = w.heap.size + 1 := by omega
 have HE : Hid ((TPattern.mk 17 t n lo hi [a]).fb = a.fb) := by show _ = _; simp [TPattern.fb, TPattern.fbs]
 go_enter Try.func37, Try.ntmps37
 go_wp2_with (fail)
 refine (HA.out S _ _ (Dat.HoldVals.bel bl HVa.out) hla).mono ?_
 rintro e w1 ⟨rfl, hb1⟩
 (have hz1 := hb1.sz; obtain ⟨hk1_0, hf1_0, hl1_0, hn1_0⟩ := hb1.lay (w.heap.size); obtain ⟨hk1_1, hf1_1, hl1_1, hn1_1⟩ := hb1.lay (w.heap.size + 1))
 go_wp2_with (fail)
 all_goals exact bodyPost_ret (v := .tuple #[.agg #[.int .i64 a.fb.lo, .int .i64 a.fb.hi], .bool a.fb.any]) (by simp [results, Try.results37, go_sem, hk1_1, hf1_1, hn1_1, hl1_1]) rfl ⟨by rw [HE.out], bl⟩
set_option maxHeartbeats 2000000 in
theorem l21First_14 (vars : Int) (t : ByteArray) (n lo hi : Int) (a b : TPattern) (IHa : FirstC 37 vars a) : FirstC 37 vars (.mk 14 t n lo hi [a, b]) := by
 intro S w vs hv hvl
 obtain ⟨A, c, rfl, -, hts, -, -, -, hR⟩ := TPattern.vals hv
 have HR := hide hR
 have hlc := HR.out.1
 have hcm := HR.out.2.1
 simp only [List.length_map, List.length_cons, List.length_nil] at hlc
 unfold maxLen at hcm
 have hL := hide hvl
 clear hR hv hvl
 have HA := hide IHa
 clear IHa
 have hbw : Bel w w := Bel.refl w
 (obtain ⟨b1, o1, x1_0, x1_1, x1_2, x1_3, x1_4, x1_5, A1_5, C1_5, hA1, hS1, hl1, hx1, hv1, g1_0, g1_1, g1_2, g1_3, g1_4, g1_5, c1_0, c1_1, c1_2, c1_3, c1_4, c1_5⟩ := TPattern.at HR.out 0 (by simp); subst hA1; have HV1 := hide (Dat.HoldVals.bel hbw hv1); have hh1 := hbw.box b1 hl1; have hw1 := Nat.lt_of_lt_of_le hl1 (Bel.size hbw); replace c1_0 := (hh1 _).trans c1_0; replace c1_1 := (hh1 _).trans c1_1; replace c1_2 := (hh1 _).trans c1_2; replace c1_3 := (hh1 _).trans c1_3; replace c1_4 := (hh1 _).trans c1_4; replace c1_5 := (hh1 _).trans c1_5; have HX1 := hide hx1; have GR1_5 := hide g1_5; clear hh1 hv1 hx1 hS1 g1_5; simp only [Nat.zero_mul, Nat.one_mul, Nat.add_zero, Nat.reduceMul, Nat.add_assoc, Nat.reduceAdd] at c1_0 c1_1 c1_2 c1_3 c1_4 c1_5)
 have HVa : Hid (Dat.HoldVals w S a.D _) := HV1
 have hla := TPattern.vld2 hL.out
 replace hla := hla.1
 clear HV1 hbw
 have hne : ¬ b1 = w.heap.size := by omega
 have hne2 : ¬ b1 = w.heap.size + 1 := by omega
 have HE : Hid ((TPattern.mk 14 t n lo hi [a, b]).fb = a.fb) := by show _ = _; simp [TPattern.fb, TPattern.fbs]
 go_enter Try.func37, Try.ntmps37
 go_wp2_with (fail)
 refine (HA.out S _ _ (Dat.HoldVals.bel bl HVa.out) hla).mono ?_
 rintro e w1 ⟨rfl, hb1⟩
 (have hz1 := hb1.sz; obtain ⟨hk1_0, hf1_0, hl1_0, hn1_0⟩ := hb1.lay (w.heap.size); obtain ⟨hk1_1, hf1_1, hl1_1, hn1_1⟩ := hb1.lay (w.heap.size + 1))
 go_wp2_with (fail)
 all_goals exact bodyPost_ret (v := .tuple #[.agg #[.int .i64 a.fb.lo, .int .i64 a.fb.hi], .bool a.fb.any]) (by simp [results, Try.results37, go_sem, hk1_1, hf1_1, hn1_1, hl1_1]) rfl ⟨by rw [HE.out], bl⟩
set_option maxHeartbeats 2000000 in
theorem l21First_15 (vars : Int) (t : ByteArray) (n lo hi : Int) (a b : TPattern) (IHa : FirstC 37 vars a) (IHb : FirstC 37 vars b) : FirstC 37 vars (.mk 15 t n lo hi [a, b]) := by
 intro S w vs hv hvl
 obtain ⟨A, c, rfl, -, hts, -, -, -, hR⟩ := TPattern.vals hv
 have HR := hide hR
 have hlc := HR.out.1
 have hcm := HR.out.2.1
 simp only [List.length_map, List.length_cons, List.length_nil] at hlc
 unfold maxLen at hcm
 have hL := hide hvl
 clear hR hv hvl
 have HA := hide IHa
 have HB := hide IHb
 clear IHa IHb
 have hbw : Bel w w := Bel.refl w
 (obtain ⟨b1, o1, x1_0, x1_1, x1_2, x1_3, x1_4, x1_5, A1_5, C1_5, hA1, hS1, hl1, hx1, hv1, g1_0, g1_1, g1_2, g1_3, g1_4, g1_5, c1_0, c1_1, c1_2, c1_3, c1_4, c1_5⟩ := TPattern.at HR.out 0 (by simp); subst hA1; have HV1 := hide (Dat.HoldVals.bel hbw hv1); have hh1 := hbw.box b1 hl1; have hw1 := Nat.lt_of_lt_of_le hl1 (Bel.size hbw); replace c1_0 := (hh1 _).trans c1_0; replace c1_1 := (hh1 _).trans c1_1; replace c1_2 := (hh1 _).trans c1_2; replace c1_3 := (hh1 _).trans c1_3; replace c1_4 := (hh1 _).trans c1_4; replace c1_5 := (hh1 _).trans c1_5; have HX1 := hide hx1; have GR1_5 := hide g1_5; clear hh1 hv1 hx1 hS1 g1_5; simp only [Nat.zero_mul, Nat.one_mul, Nat.add_zero, Nat.reduceMul, Nat.add_assoc, Nat.reduceAdd] at c1_0 c1_1 c1_2 c1_3 c1_4 c1_5)
 (obtain ⟨b2, o2, x2_0, x2_1, x2_2, x2_3, x2_4, x2_5, A2_5, C2_5, hA2, hS2, hl2, hx2, hv2, g2_0, g2_1, g2_2, g2_3, g2_4, g2_5, c2_0, c2_1, c2_2, c2_3, c2_4, c2_5⟩ := TPattern.at HR.out 1 (by simp); injection Option.some.inj hA2 with qb2 qo2 _; subst qb2 qo2; have HV2 := hide (Dat.HoldVals.bel hbw hv2); have hh2 := hbw.box b1 hl2; have hw2 := Nat.lt_of_lt_of_le hl2 (Bel.size hbw); replace c2_0 := (hh2 _).trans c2_0; replace c2_1 := (hh2 _).trans c2_1; replace c2_2 := (hh2 _).trans c2_2; replace c2_3 := (hh2 _).trans c2_3; replace c2_4 := (hh2 _).trans c2_4; replace c2_5 := (hh2 _).trans c2_5; have HX2 := hide hx2; have GR2_5 := hide g2_5; clear hh2 hv2 hx2 hS2 g2_5; simp only [Nat.zero_mul, Nat.one_mul, Nat.add_zero, Nat.reduceMul, Nat.add_assoc, Nat.reduceAdd] at c2_0 c2_1 c2_2 c2_3 c2_4 c2_5)
 have HVa : Hid (Dat.HoldVals w S a.D _) := HV1
 have HVb : Hid (Dat.HoldVals w S b.D _) := HV2
 obtain ⟨hla, hlb⟩ := TPattern.vld2 hL.out
 clear HV1 HV2 hbw
 have hne : ¬ b1 = w.heap.size := by omega
 have hne2 : ¬ b1 = w.heap.size + 1 := by omega
 rcases Bool.eq_false_or_eq_true a.fb.any with ha | ha <;> rcases Bool.eq_false_or_eq_true b.fb.any with hb | hb
 ·
  have Ha := hide ha
  have Hb := hide hb
  have HE : Hid ((TPattern.mk 15 t n lo hi [a, b]).fb = ⟨0, 0, true⟩) := by show _ = _; simp [TPattern.fb, TPattern.fbs, ha, hb]
  clear ha hb
  go_enter Try.func37, Try.ntmps37
  go_wp2_with (fail)
  refine (HA.out S _ _ (Dat.HoldVals.bel bl HVa.out) hla).mono ?_
  rintro e w1 ⟨rfl, hb1⟩
  rw [Ha.out]
  (have hz1 := hb1.sz; obtain ⟨hk1_0, hf1_0, hl1_0, hn1_0⟩ := hb1.lay (w.heap.size); obtain ⟨hk1_1, hf1_1, hl1_1, hn1_1⟩ := hb1.lay (w.heap.size + 1); obtain ⟨hk1_2, hf1_2, hl1_2, hn1_2⟩ := hb1.lay (b1))
  go_wp2_with (fail)
  refine (HB.out S _ _ (Dat.HoldVals.bel bl HVb.out) hlb).mono ?_
  rintro e w2 ⟨rfl, hb2⟩
  rw [Hb.out]
  (have hz2 := hb2.sz; obtain ⟨hk2_0, hf2_0, hl2_0, hn2_0⟩ := hb2.lay (w.heap.size); obtain ⟨hk2_1, hf2_1, hl2_1, hn2_1⟩ := hb2.lay (w.heap.size + 1); obtain ⟨hk2_2, hf2_2, hl2_2, hn2_2⟩ := hb2.lay (w1.heap.size))
  go_wp2_with (fail)
  all_goals exact bodyPost_ret (v := .tuple #[.agg #[.int .i64 0, .int .i64 0], .bool true]) (by simp [results, Try.results37, go_sem, hk1_1, hf1_1, hk2_1, hf2_1, hn1_1, hn2_1, hl1_1, hl2_1]) rfl ⟨by rw [HE.out], bl⟩
 ·
  have Ha := hide ha
  have Hb := hide hb
  have HE : Hid ((TPattern.mk 15 t n lo hi [a, b]).fb = ⟨0, 0, true⟩) := by show _ = _; simp [TPattern.fb, TPattern.fbs, ha, hb]
  clear ha hb
  go_enter Try.func37, Try.ntmps37
  go_wp2_with (fail)
  refine (HA.out S _ _ (Dat.HoldVals.bel bl HVa.out) hla).mono ?_
  rintro e w1 ⟨rfl, hb1⟩
  rw [Ha.out]
  (have hz1 := hb1.sz; obtain ⟨hk1_0, hf1_0, hl1_0, hn1_0⟩ := hb1.lay (w.heap.size); obtain ⟨hk1_1, hf1_1, hl1_1, hn1_1⟩ := hb1.lay (w.heap.size + 1); obtain ⟨hk1_2, hf1_2, hl1_2, hn1_2⟩ := hb1.lay (b1))
  go_wp2_with (fail)
  refine (HB.out S _ _ (Dat.HoldVals.bel bl HVb.out) hlb).mono ?_
  rintro e w2 ⟨rfl, hb2⟩
  rw [Hb.out]
  (have hz2 := hb2.sz; obtain ⟨hk2_0, hf2_0, hl2_0, hn2_0⟩ := hb2.lay (w.heap.size); obtain ⟨hk2_1, hf2_1, hl2_1, hn2_1⟩ := hb2.lay (w.heap.size + 1); obtain ⟨hk2_2, hf2_2, hl2_2, hn2_2⟩ := hb2.lay (w1.heap.size))
  go_wp2_with (fail)
  all_goals exact bodyPost_ret (v := .tuple #[.agg #[.int .i64 0, .int .i64 0], .bool true]) (by simp [results, Try.results37, go_sem, hk1_1, hf1_1, hk2_1, hf2_1, hn1_1, hn2_1, hl1_1, hl2_1]) rfl ⟨by rw [HE.out], bl⟩
 ·
  have Ha := hide ha
  have Hb := hide hb
  have HE : Hid ((TPattern.mk 15 t n lo hi [a, b]).fb = ⟨0, 0, true⟩) := by show _ = _; simp [TPattern.fb, TPattern.fbs, ha, hb]
  clear ha hb
  go_enter Try.func37, Try.ntmps37
  go_wp2_with (fail)
  refine (HA.out S _ _ (Dat.HoldVals.bel bl HVa.out) hla).mono ?_
  rintro e w1 ⟨rfl, hb1⟩
  rw [Ha.out]
  (have hz1 := hb1.sz; obtain ⟨hk1_0, hf1_0, hl1_0, hn1_0⟩ := hb1.lay (w.heap.size); obtain ⟨hk1_1, hf1_1, hl1_1, hn1_1⟩ := hb1.lay (w.heap.size + 1); obtain ⟨hk1_2, hf1_2, hl1_2, hn1_2⟩ := hb1.lay (b1))
  go_wp2_with (fail)
  refine (HB.out S _ _ (Dat.HoldVals.bel bl HVb.out) hlb).mono ?_
  rintro e w2 ⟨rfl, hb2⟩
  rw [Hb.out]
  (have hz2 := hb2.sz; obtain ⟨hk2_0, hf2_0, hl2_0, hn2_0⟩ := hb2.lay (w.heap.size); obtain ⟨hk2_1, hf2_1, hl2_1, hn2_1⟩ := hb2.lay (w.heap.size + 1); obtain ⟨hk2_2, hf2_2, hl2_2, hn2_2⟩ := hb2.lay (w1.heap.size))
  go_wp2_with (fail)
  all_goals exact bodyPost_ret (v := .tuple #[.agg #[.int .i64 0, .int .i64 0], .bool true]) (by simp [results, Try.results37, go_sem, hk1_1, hf1_1, hk2_1, hf2_1, hn1_1, hn2_1, hl1_1, hl2_1]) rfl ⟨by rw [HE.out], bl⟩
 ·
  have Ha := hide ha
  have Hb := hide hb
  have HE : Hid ((TPattern.mk 15 t n lo hi [a, b]).fb = ⟨bits .or .i64 a.fb.lo b.fb.lo, bits .or .i64 a.fb.hi b.fb.hi, false⟩) := by show _ = _; simp [TPattern.fb, TPattern.fbs, ha, hb]
  clear ha hb
  go_enter Try.func37, Try.ntmps37
  go_wp2_with (fail)
  refine (HA.out S _ _ (Dat.HoldVals.bel bl HVa.out) hla).mono ?_
  rintro e w1 ⟨rfl, hb1⟩
  rw [Ha.out]
  (have hz1 := hb1.sz; obtain ⟨hk1_0, hf1_0, hl1_0, hn1_0⟩ := hb1.lay (w.heap.size); obtain ⟨hk1_1, hf1_1, hl1_1, hn1_1⟩ := hb1.lay (w.heap.size + 1); obtain ⟨hk1_2, hf1_2, hl1_2, hn1_2⟩ := hb1.lay (b1))
  go_wp2_with (fail)
  refine (HB.out S _ _ (Dat.HoldVals.bel bl HVb.out) hlb).mono ?_
  rintro e w2 ⟨rfl, hb2⟩
  rw [Hb.out]
  (have hz2 := hb2.sz; obtain ⟨hk2_0, hf2_0, hl2_0, hn2_0⟩ := hb2.lay (w.heap.size); obtain ⟨hk2_1, hf2_1, hl2_1, hn2_1⟩ := hb2.lay (w.heap.size + 1); obtain ⟨hk2_2, hf2_2, hl2_2, hn2_2⟩ := hb2.lay (w1.heap.size))
  go_wp2_with (fail)
  refine (specUnionCsets_any _ _ _ _ _).mono ?_
  rintro e w3 ⟨rfl, hb3⟩
  (have hz3 := hb3.sz; obtain ⟨hk3_0, hf3_0, hl3_0, hn3_0⟩ := hb3.lay (w.heap.size); obtain ⟨hk3_1, hf3_1, hl3_1, hn3_1⟩ := hb3.lay (w.heap.size + 1); obtain ⟨hk3_2, hf3_2, hl3_2, hn3_2⟩ := hb3.lay (w1.heap.size); obtain ⟨hk3_3, hf3_3, hl3_3, hn3_3⟩ := hb3.lay (w2.heap.size))
  go_wp2_with (fail)
  all_goals exact bodyPost_ret (v := .tuple #[.agg #[.int .i64 (bits .or .i64 a.fb.lo b.fb.lo), .int .i64 (bits .or .i64 a.fb.hi b.fb.hi)], .bool false]) (by simp [results, Try.results37, go_sem, hk1_1, hf1_1, hk2_1, hf2_1, hk3_1, hf3_1, hn1_1, hn2_1, hn3_1, hl1_1, hl2_1, hl3_1]) rfl ⟨by rw [HE.out], bl⟩
theorem l21First_any (vars : Int) : ∀ t : TPattern, FirstC 37 vars t := by
 refine TPattern.ind fun op t n lo hi ks IH => ?_
 intro S w vs hv hvl
 by_cases h1 : op = 1
 ·
  subst h1; exact l21First_1 vars t n lo hi ks S w vs hv hvl
 by_cases h7 : op = 7
 ·
  subst h7; exact l21First_7 vars t n lo hi ks S w vs hv hvl
 by_cases h9 : op = 9
 ·
  subst h9; exact l21First_9 vars t n lo hi ks S w vs hv hvl
 by_cases h23 : op = 23
 ·
  subst h23; exact l21First_23 vars t n lo hi ks S w vs hv hvl
 by_cases h14 : op = 14
 ·
  subst h14
  obtain ⟨a, b, rfl, -, -⟩ := TPattern.kids2 hvl rfl
  exact l21First_14 vars t n lo hi a b (IH 0 (by simp)) S w vs hv hvl
 by_cases h15 : op = 15
 ·
  subst h15
  obtain ⟨a, b, rfl, -, -⟩ := TPattern.kids2 hvl rfl
  exact l21First_15 vars t n lo hi a b (IH 0 (by simp)) (IH 1 (by simp)) S w vs hv hvl
 by_cases h16 : op = 16
 ·
  subst h16
  obtain ⟨a, rfl, -⟩ := TPattern.kids1 hvl rfl
  exact l21First_16 vars t n lo hi a (IH 0 (by simp)) S w vs hv hvl
 by_cases h17 : op = 17
 ·
  subst h17
  obtain ⟨a, rfl, -⟩ := TPattern.kids1 hvl rfl
  exact l21First_17 vars t n lo hi a (IH 0 (by simp)) S w vs hv hvl
 exact l21First_x vars t n lo hi ks op h1 h7 h9 h14 h15 h16 h17 h23 S w vs hv hvl
set_option maxHeartbeats 2000000 in
theorem firstBytes_1 (vars : Int) (t : ByteArray) (n lo hi : Int) (ks : List TPattern) : FirstC 35 vars (.mk 1 t n lo hi ks) := by
 intro S w vs hv hvl
 obtain ⟨A, c, rfl, -, hts, -, -, -, hR⟩ := TPattern.vals hv
 have HR := hide hR
 have hlc := HR.out.1
 have hcm := HR.out.2.1
 simp only [List.length_map, List.length_cons, List.length_nil] at hlc
 unfold maxLen at hcm
 have hL := hide hvl
 clear hR hv hvl
 by_cases h0 : t.size = 0
 ·
  have HE : Hid ((TPattern.mk 1 t n lo hi ks).fb = ⟨0, 0, true⟩) := by show _ = _; simp [TPattern.fb, fbT, h0]
  have d0 : decide ((0 : Int) < (t.size : Int)) = false := by rw [decide_eq_false_iff_not]; omega
  have d0n : decide (0 < t.size) = false := by rw [decide_eq_false_iff_not]; omega
  have hemp := tlE.2 h0
  have hemp1 : (!t.toList.isEmpty) = false := by rw [hemp]; rfl
  have H0 := hide h0
  clear h0
  go_enter Try.func35, Try.ntmps35
  go_wp2_with (fail)
  all_goals exact bodyPost_ret (v := .tuple #[.agg #[.int .i64 0, .int .i64 0], .bool true]) (by simp [results, Try.results35, go_sem]) rfl ⟨by rw [HE.out], bl⟩
 have d0 : decide ((0 : Int) < (t.size : Int)) = true := by rw [decide_eq_true_eq]; omega
 have d0n : decide (0 < t.size) = true := by rw [decide_eq_true_eq]; omega
 have hemp : t.toList.isEmpty = false := by have := fun e => h0 (tlE.1 e); simpa using this
 have hemp1 : (!t.toList.isEmpty) = true := by rw [hemp]; rfl
 have hps : 0 < t.size := by omega
 have hsz : (t.extract 0 1).size ≤ maxLen := by rw [head_size hps]; unfold maxLen; omega
 have HZ := hide hsz
 clear hsz
 have hge : (1 : Int) ≤ (t.size : Int) := by omega
 have hts2 := hts
 unfold maxLen at hts2
 have HB := hide (byteAt_eq t 0 hps)
 by_cases hb : byteAt t 0 ≤ 127
 ·
  have h3 : t[0].toNat ≤ 127 := by rw [HB.out]; exact hb
  have HE : Hid ((TPattern.mk 1 t n lo hi ks).fb = ⟨nsLo (t.extract 0 1), nsHi (t.extract 0 1), false⟩) := by show _ = _; simp [TPattern.fb, fbT, h0, fbT_lo hps hb]
  clear h0 hb
  go_enter Try.func35, Try.ntmps35
  go_wp2_with (fail)
  refine (implNewCset_any _ _ HZ.out).mono ?_
  rintro e w1 ⟨rfl, hb1⟩
  (have hz1 := hb1.sz; obtain ⟨hk1_0, hf1_0, hl1_0, hn1_0⟩ := hb1.lay (w.heap.size); obtain ⟨hk1_1, hf1_1, hl1_1, hn1_1⟩ := hb1.lay (w.heap.size + 1))
  go_wp2_with (fail)
  all_goals exact bodyPost_ret (v := .tuple #[.agg #[.int .i64 (nsLo (t.extract 0 1)), .int .i64 (nsHi (t.extract 0 1))], .bool false]) (by simp [results, Try.results35, go_sem, hk1_1, hf1_1, hn1_1, hl1_1]) rfl ⟨by rw [HE.out], bl⟩
 ·
  have h3 : 127 < t[0].toNat := by rw [HB.out]; omega
  have HE : Hid ((TPattern.mk 1 t n lo hi ks).fb = ⟨0, 0, true⟩) := by show _ = _; simp [TPattern.fb, fbT, h0, fbT_hi hps hb]
  clear h0 hb
  go_enter Try.func35, Try.ntmps35
  go_wp2_with (fail)
  all_goals exact bodyPost_ret (v := .tuple #[.agg #[.int .i64 0, .int .i64 0], .bool true]) (by simp [results, Try.results35, go_sem]) rfl ⟨by rw [HE.out], bl⟩
set_option maxHeartbeats 2000000 in
theorem firstBytes_7 (vars : Int) (t : ByteArray) (n lo hi : Int) (ks : List TPattern) : FirstC 35 vars (.mk 7 t n lo hi ks) := by
 intro S w vs hv hvl
 obtain ⟨A, c, rfl, -, hts, -, -, -, hR⟩ := TPattern.vals hv
 have HR := hide hR
 have hlc := HR.out.1
 have hcm := HR.out.2.1
 simp only [List.length_map, List.length_cons, List.length_nil] at hlc
 unfold maxLen at hcm
 have hL := hide hvl
 clear hR hv hvl
 have HE : Hid ((TPattern.mk 7 t n lo hi ks).fb = ⟨lo, hi, false⟩) := by show _ = _; simp [TPattern.fb]
 go_enter Try.func35, Try.ntmps35
 go_wp2_with (fail)
 all_goals exact bodyPost_ret (v := .tuple #[.agg #[.int .i64 lo, .int .i64 hi], .bool false]) (by simp [results, Try.results35, go_sem]) rfl ⟨by rw [HE.out], bl⟩
set_option maxHeartbeats 2000000 in
theorem firstBytes_9 (vars : Int) (t : ByteArray) (n lo hi : Int) (ks : List TPattern) : FirstC 35 vars (.mk 9 t n lo hi ks) := by
 intro S w vs hv hvl
 obtain ⟨A, c, rfl, -, hts, -, -, -, hR⟩ := TPattern.vals hv
 have HR := hide hR
 have hlc := HR.out.1
 have hcm := HR.out.2.1
 simp only [List.length_map, List.length_cons, List.length_nil] at hlc
 unfold maxLen at hcm
 have hL := hide hvl
 clear hR hv hvl
 have HE : Hid ((TPattern.mk 9 t n lo hi ks).fb = ⟨lo, hi, false⟩) := by show _ = _; simp [TPattern.fb]
 go_enter Try.func35, Try.ntmps35
 go_wp2_with (fail)
 all_goals exact bodyPost_ret (v := .tuple #[.agg #[.int .i64 lo, .int .i64 hi], .bool false]) (by simp [results, Try.results35, go_sem]) rfl ⟨by rw [HE.out], bl⟩
set_option maxHeartbeats 2000000 in
theorem firstBytes_23 (vars : Int) (t : ByteArray) (n lo hi : Int) (ks : List TPattern) : FirstC 35 vars (.mk 23 t n lo hi ks) := by
 intro S w vs hv hvl
 obtain ⟨A, c, rfl, -, hts, -, -, -, hR⟩ := TPattern.vals hv
 have HR := hide hR
 have hlc := HR.out.1
 have hcm := HR.out.2.1
 simp only [List.length_map, List.length_cons, List.length_nil] at hlc
 unfold maxLen at hcm
 have hL := hide hvl
 clear hR hv hvl
 have HE : Hid ((TPattern.mk 23 t n lo hi ks).fb = ⟨0, 0, false⟩) := by show _ = _; simp [TPattern.fb]
 go_enter Try.func35, Try.ntmps35
 go_wp2_with (fail)
 all_goals exact bodyPost_ret (v := .tuple #[.agg #[.int .i64 0, .int .i64 0], .bool false]) (by simp [results, Try.results35, go_sem]) rfl ⟨by rw [HE.out], bl⟩
set_option maxHeartbeats 2000000 in
theorem firstBytes_x (vars : Int) (t : ByteArray) (n lo hi : Int) (ks : List TPattern) (op : Int) (h1 : ¬ op = 1) (h7 : ¬ op = 7) (h9 : ¬ op = 9) (h14 : ¬ op = 14) (h15 : ¬ op = 15) (h16 : ¬ op = 16) (h17 : ¬ op = 17) (h23 : ¬ op = 23) : FirstC 35 vars (.mk op t n lo hi ks) := by
 intro S w vs hv hvl
 obtain ⟨A, c, rfl, -, hts, -, -, -, hR⟩ := TPattern.vals hv
 have HR := hide hR
 have hlc := HR.out.1
 have hcm := HR.out.2.1
 simp only [List.length_map, List.length_cons, List.length_nil] at hlc
 unfold maxLen at hcm
 have hL := hide hvl
 clear hR hv hvl
 have b1 : (op == 1) = false := by simp [h1]
 have b7 : (op == 7) = false := by simp [h7]
 have b9 : (op == 9) = false := by simp [h9]
 have b14 : (op == 14) = false := by simp [h14]
 have b15 : (op == 15) = false := by simp [h15]
 have b16 : (op == 16) = false := by simp [h16]
 have b17 : (op == 17) = false := by simp [h17]
 have b23 : (op == 23) = false := by simp [h23]
 have HE : Hid ((TPattern.mk op t n lo hi ks).fb = ⟨0, 0, true⟩) := by show _ = _; simp [TPattern.fb, h1, h7, h9, h14, h15, h16, h17, h23]
 go_enter Try.func35, Try.ntmps35
 go_wp2_with (fail)
 all_goals exact bodyPost_ret (v := .tuple #[.agg #[.int .i64 0, .int .i64 0], .bool true]) (by simp [results, Try.results35, go_sem]) rfl ⟨by rw [HE.out], bl⟩
set_option maxHeartbeats 2000000 in
theorem firstBytes_16 (vars : Int) (t : ByteArray) (n lo hi : Int) (a : TPattern) (IHa : FirstC 35 vars a) : FirstC 35 vars (.mk 16 t n lo hi [a]) := by
 intro S w vs hv hvl
 obtain ⟨A, c, rfl, -, hts, -, -, -, hR⟩ := TPattern.vals hv
 have HR := hide hR
 have hlc := HR.out.1
 have hcm := HR.out.2.1
 simp only [List.length_map, List.length_cons, List.length_nil] at hlc
 unfold maxLen at hcm
 have hL := hide hvl
 clear hR hv hvl
 have HA := hide IHa
 clear IHa
 have hbw : Bel w w := Bel.refl w
 (obtain ⟨b1, o1, x1_0, x1_1, x1_2, x1_3, x1_4, x1_5, A1_5, C1_5, hA1, hS1, hl1, hx1, hv1, g1_0, g1_1, g1_2, g1_3, g1_4, g1_5, c1_0, c1_1, c1_2, c1_3, c1_4, c1_5⟩ := TPattern.at HR.out 0 (by simp); subst hA1; have HV1 := hide (Dat.HoldVals.bel hbw hv1); have hh1 := hbw.box b1 hl1; have hw1 := Nat.lt_of_lt_of_le hl1 (Bel.size hbw); replace c1_0 := (hh1 _).trans c1_0; replace c1_1 := (hh1 _).trans c1_1; replace c1_2 := (hh1 _).trans c1_2; replace c1_3 := (hh1 _).trans c1_3; replace c1_4 := (hh1 _).trans c1_4; replace c1_5 := (hh1 _).trans c1_5; have HX1 := hide hx1; have GR1_5 := hide g1_5; clear hh1 hv1 hx1 hS1 g1_5; simp only [Nat.zero_mul, Nat.one_mul, Nat.add_zero, Nat.reduceMul, Nat.add_assoc, Nat.reduceAdd] at c1_0 c1_1 c1_2 c1_3 c1_4 c1_5)
 have HVa : Hid (Dat.HoldVals w S a.D _) := HV1
 have hla := TPattern.vld1 hL.out
 clear HV1 hbw
 have hne : ¬ b1 = w.heap.size := by omega
 have hne2 : ¬ b1 = w.heap.size + 1 := by omega
 have HE : Hid ((TPattern.mk 16 t n lo hi [a]).fb = a.fb) := by show _ = _; simp [TPattern.fb, TPattern.fbs]
 go_enter Try.func35, Try.ntmps35
 go_wp2_with (fail)
 refine (HA.out S _ _ (Dat.HoldVals.bel bl HVa.out) hla).mono ?_
 rintro e w1 ⟨rfl, hb1⟩
 (have hz1 := hb1.sz; obtain ⟨hk1_0, hf1_0, hl1_0, hn1_0⟩ := hb1.lay (w.heap.size); obtain ⟨hk1_1, hf1_1, hl1_1, hn1_1⟩ := hb1.lay (w.heap.size + 1))
 go_wp2_with (fail)
 all_goals exact bodyPost_ret (v := .tuple #[.agg #[.int .i64 a.fb.lo, .int .i64 a.fb.hi], .bool a.fb.any]) (by simp [results, Try.results35, go_sem, hk1_1, hf1_1, hn1_1, hl1_1]) rfl ⟨by rw [HE.out], bl⟩
set_option maxHeartbeats 2000000 in
theorem firstBytes_17 (vars : Int) (t : ByteArray) (n lo hi : Int) (a : TPattern) (IHa : FirstC 35 vars a) : FirstC 35 vars (.mk 17 t n lo hi [a]) := by
 intro S w vs hv hvl
 obtain ⟨A, c, rfl, -, hts, -, -, -, hR⟩ := TPattern.vals hv
 have HR := hide hR
 have hlc := HR.out.1
 have hcm := HR.out.2.1
 simp only [List.length_map, List.length_cons, List.length_nil] at hlc
 unfold maxLen at hcm
 have hL := hide hvl
 clear hR hv hvl
 have HA := hide IHa
 clear IHa
 have hbw : Bel w w := Bel.refl w
 (obtain ⟨b1, o1, x1_0, x1_1, x1_2, x1_3, x1_4, x1_5, A1_5, C1_5, hA1, hS1, hl1, hx1, hv1, g1_0, g1_1, g1_2, g1_3, g1_4, g1_5, c1_0, c1_1, c1_2, c1_3, c1_4, c1_5⟩ := TPattern.at HR.out 0 (by simp); subst hA1; have HV1 := hide (Dat.HoldVals.bel hbw hv1); have hh1 := hbw.box b1 hl1; have hw1 := Nat.lt_of_lt_of_le hl1 (Bel.size hbw); replace c1_0 := (hh1 _).trans c1_0; replace c1_1 := (hh1 _).trans c1_1; replace c1_2 := (hh1 _).trans c1_2; replace c1_3 := (hh1 _).trans c1_3; replace c1_4 := (hh1 _).trans c1_4; replace c1_5 := (hh1 _).trans c1_5; have HX1 := hide hx1; have GR1_5 := hide g1_5; clear hh1 hv1 hx1 hS1 g1_5; simp only [Nat.zero_mul, Nat.one_mul, Nat.add_zero, Nat.reduceMul, Nat.add_assoc, Nat.reduceAdd] at c1_0 c1_1 c1_2 c1_3 c1_4 c1_5)
 have HVa : Hid (Dat.HoldVals w S a.D _) := HV1
 have hla := TPattern.vld1 hL.out
 clear HV1 hbw
 have hne : ¬ b1 = w.heap.size := by omega
 have hne2 : ¬ b1 = w.heap.size + 1 := by omega
 have HE : Hid ((TPattern.mk 17 t n lo hi [a]).fb = a.fb) := by show _ = _; simp [TPattern.fb, TPattern.fbs]
 go_enter Try.func35, Try.ntmps35
 go_wp2_with (fail)
 refine (HA.out S _ _ (Dat.HoldVals.bel bl HVa.out) hla).mono ?_
 rintro e w1 ⟨rfl, hb1⟩
 (have hz1 := hb1.sz; obtain ⟨hk1_0, hf1_0, hl1_0, hn1_0⟩ := hb1.lay (w.heap.size); obtain ⟨hk1_1, hf1_1, hl1_1, hn1_1⟩ := hb1.lay (w.heap.size + 1))
 go_wp2_with (fail)
 all_goals exact bodyPost_ret (v := .tuple #[.agg #[.int .i64 a.fb.lo, .int .i64 a.fb.hi], .bool a.fb.any]) (by simp [results, Try.results35, go_sem, hk1_1, hf1_1, hn1_1, hl1_1]) rfl ⟨by rw [HE.out], bl⟩
set_option maxHeartbeats 2000000 in
theorem firstBytes_14 (vars : Int) (t : ByteArray) (n lo hi : Int) (a b : TPattern) (IHa : FirstC 35 vars a) : FirstC 35 vars (.mk 14 t n lo hi [a, b]) := by
 intro S w vs hv hvl
 obtain ⟨A, c, rfl, -, hts, -, -, -, hR⟩ := TPattern.vals hv
 have HR := hide hR
 have hlc := HR.out.1
 have hcm := HR.out.2.1
 simp only [List.length_map, List.length_cons, List.length_nil] at hlc
 unfold maxLen at hcm
 have hL := hide hvl
 clear hR hv hvl
 have HA := hide IHa
 clear IHa
 have hbw : Bel w w := Bel.refl w
 (obtain ⟨b1, o1, x1_0, x1_1, x1_2, x1_3, x1_4, x1_5, A1_5, C1_5, hA1, hS1, hl1, hx1, hv1, g1_0, g1_1, g1_2, g1_3, g1_4, g1_5, c1_0, c1_1, c1_2, c1_3, c1_4, c1_5⟩ := TPattern.at HR.out 0 (by simp); subst hA1; have HV1 := hide (Dat.HoldVals.bel hbw hv1); have hh1 := hbw.box b1 hl1; have hw1 := Nat.lt_of_lt_of_le hl1 (Bel.size hbw); replace c1_0 := (hh1 _).trans c1_0; replace c1_1 := (hh1 _).trans c1_1; replace c1_2 := (hh1 _).trans c1_2; replace c1_3 := (hh1 _).trans c1_3; replace c1_4 := (hh1 _).trans c1_4; replace c1_5 := (hh1 _).trans c1_5; have HX1 := hide hx1; have GR1_5 := hide g1_5; clear hh1 hv1 hx1 hS1 g1_5; simp only [Nat.zero_mul, Nat.one_mul, Nat.add_zero, Nat.reduceMul, Nat.add_assoc, Nat.reduceAdd] at c1_0 c1_1 c1_2 c1_3 c1_4 c1_5)
 have HVa : Hid (Dat.HoldVals w S a.D _) := HV1
 have hla := TPattern.vld2 hL.out
 replace hla := hla.1
 clear HV1 hbw
 have hne : ¬ b1 = w.heap.size := by omega
 have hne2 : ¬ b1 = w.heap.size + 1 := by omega
 have HE : Hid ((TPattern.mk 14 t n lo hi [a, b]).fb = a.fb) := by show _ = _; simp [TPattern.fb, TPattern.fbs]
 go_enter Try.func35, Try.ntmps35
 go_wp2_with (fail)
 refine (HA.out S _ _ (Dat.HoldVals.bel bl HVa.out) hla).mono ?_
 rintro e w1 ⟨rfl, hb1⟩
 (have hz1 := hb1.sz; obtain ⟨hk1_0, hf1_0, hl1_0, hn1_0⟩ := hb1.lay (w.heap.size); obtain ⟨hk1_1, hf1_1, hl1_1, hn1_1⟩ := hb1.lay (w.heap.size + 1))
 go_wp2_with (fail)
 all_goals exact bodyPost_ret (v := .tuple #[.agg #[.int .i64 a.fb.lo, .int .i64 a.fb.hi], .bool a.fb.any]) (by simp [results, Try.results35, go_sem, hk1_1, hf1_1, hn1_1, hl1_1]) rfl ⟨by rw [HE.out], bl⟩
set_option maxHeartbeats 2000000 in
theorem firstBytes_15 (vars : Int) (t : ByteArray) (n lo hi : Int) (a b : TPattern) (IHa : FirstC 35 vars a) (IHb : FirstC 35 vars b) : FirstC 35 vars (.mk 15 t n lo hi [a, b]) := by
 intro S w vs hv hvl
 obtain ⟨A, c, rfl, -, hts, -, -, -, hR⟩ := TPattern.vals hv
 have HR := hide hR
 have hlc := HR.out.1
 have hcm := HR.out.2.1
 simp only [List.length_map, List.length_cons, List.length_nil] at hlc
 unfold maxLen at hcm
 have hL := hide hvl
 clear hR hv hvl
 have HA := hide IHa
 have HB := hide IHb
 clear IHa IHb
 have hbw : Bel w w := Bel.refl w
 (obtain ⟨b1, o1, x1_0, x1_1, x1_2, x1_3, x1_4, x1_5, A1_5, C1_5, hA1, hS1, hl1, hx1, hv1, g1_0, g1_1, g1_2, g1_3, g1_4, g1_5, c1_0, c1_1, c1_2, c1_3, c1_4, c1_5⟩ := TPattern.at HR.out 0 (by simp); subst hA1; have HV1 := hide (Dat.HoldVals.bel hbw hv1); have hh1 := hbw.box b1 hl1; have hw1 := Nat.lt_of_lt_of_le hl1 (Bel.size hbw); replace c1_0 := (hh1 _).trans c1_0; replace c1_1 := (hh1 _).trans c1_1; replace c1_2 := (hh1 _).trans c1_2; replace c1_3 := (hh1 _).trans c1_3; replace c1_4 := (hh1 _).trans c1_4; replace c1_5 := (hh1 _).trans c1_5; have HX1 := hide hx1; have GR1_5 := hide g1_5; clear hh1 hv1 hx1 hS1 g1_5; simp only [Nat.zero_mul, Nat.one_mul, Nat.add_zero, Nat.reduceMul, Nat.add_assoc, Nat.reduceAdd] at c1_0 c1_1 c1_2 c1_3 c1_4 c1_5)
 (obtain ⟨b2, o2, x2_0, x2_1, x2_2, x2_3, x2_4, x2_5, A2_5, C2_5, hA2, hS2, hl2, hx2, hv2, g2_0, g2_1, g2_2, g2_3, g2_4, g2_5, c2_0, c2_1, c2_2, c2_3, c2_4, c2_5⟩ := TPattern.at HR.out 1 (by simp); injection Option.some.inj hA2 with qb2 qo2 _; subst qb2 qo2; have HV2 := hide (Dat.HoldVals.bel hbw hv2); have hh2 := hbw.box b1 hl2; have hw2 := Nat.lt_of_lt_of_le hl2 (Bel.size hbw); replace c2_0 := (hh2 _).trans c2_0; replace c2_1 := (hh2 _).trans c2_1; replace c2_2 := (hh2 _).trans c2_2; replace c2_3 := (hh2 _).trans c2_3; replace c2_4 := (hh2 _).trans c2_4; replace c2_5 := (hh2 _).trans c2_5; have HX2 := hide hx2; have GR2_5 := hide g2_5; clear hh2 hv2 hx2 hS2 g2_5; simp only [Nat.zero_mul, Nat.one_mul, Nat.add_zero, Nat.reduceMul, Nat.add_assoc, Nat.reduceAdd] at c2_0 c2_1 c2_2 c2_3 c2_4 c2_5)
 have HVa : Hid (Dat.HoldVals w S a.D _) := HV1
 have HVb : Hid (Dat.HoldVals w S b.D _) := HV2
 obtain ⟨hla, hlb⟩ := TPattern.vld2 hL.out
 clear HV1 HV2 hbw
 have hne : ¬ b1 = w.heap.size := by omega
 have hne2 : ¬ b1 = w.heap.size + 1 := by omega
 rcases Bool.eq_false_or_eq_true a.fb.any with ha | ha <;> rcases Bool.eq_false_or_eq_true b.fb.any with hb | hb
 ·
  have Ha := hide ha
  have Hb := hide hb
  have HE : Hid ((TPattern.mk 15 t n lo hi [a, b]).fb = ⟨0, 0, true⟩) := by show _ = _; simp [TPattern.fb, TPattern.fbs, ha, hb]
  clear ha hb
  go_enter Try.func35, Try.ntmps35
  go_wp2_with (fail)
  refine (HA.out S _ _ (Dat.HoldVals.bel bl HVa.out) hla).mono ?_
  rintro e w1 ⟨rfl, hb1⟩
  rw [Ha.out]
  (have hz1 := hb1.sz; obtain ⟨hk1_0, hf1_0, hl1_0, hn1_0⟩ := hb1.lay (w.heap.size); obtain ⟨hk1_1, hf1_1, hl1_1, hn1_1⟩ := hb1.lay (w.heap.size + 1); obtain ⟨hk1_2, hf1_2, hl1_2, hn1_2⟩ := hb1.lay (b1))
  go_wp2_with (fail)
  refine (HB.out S _ _ (Dat.HoldVals.bel bl HVb.out) hlb).mono ?_
  rintro e w2 ⟨rfl, hb2⟩
  rw [Hb.out]
  (have hz2 := hb2.sz; obtain ⟨hk2_0, hf2_0, hl2_0, hn2_0⟩ := hb2.lay (w.heap.size); obtain ⟨hk2_1, hf2_1, hl2_1, hn2_1⟩ := hb2.lay (w.heap.size + 1); obtain ⟨hk2_2, hf2_2, hl2_2, hn2_2⟩ := hb2.lay (w1.heap.size))
  go_wp2_with (fail)
  all_goals exact bodyPost_ret (v := .tuple #[.agg #[.int .i64 0, .int .i64 0], .bool true]) (by simp [results, Try.results35, go_sem, hk1_1, hf1_1, hk2_1, hf2_1, hn1_1, hn2_1, hl1_1, hl2_1]) rfl ⟨by rw [HE.out], bl⟩
 ·
  have Ha := hide ha
  have Hb := hide hb
  have HE : Hid ((TPattern.mk 15 t n lo hi [a, b]).fb = ⟨0, 0, true⟩) := by show _ = _; simp [TPattern.fb, TPattern.fbs, ha, hb]
  clear ha hb
  go_enter Try.func35, Try.ntmps35
  go_wp2_with (fail)
  refine (HA.out S _ _ (Dat.HoldVals.bel bl HVa.out) hla).mono ?_
  rintro e w1 ⟨rfl, hb1⟩
  rw [Ha.out]
  (have hz1 := hb1.sz; obtain ⟨hk1_0, hf1_0, hl1_0, hn1_0⟩ := hb1.lay (w.heap.size); obtain ⟨hk1_1, hf1_1, hl1_1, hn1_1⟩ := hb1.lay (w.heap.size + 1); obtain ⟨hk1_2, hf1_2, hl1_2, hn1_2⟩ := hb1.lay (b1))
  go_wp2_with (fail)
  refine (HB.out S _ _ (Dat.HoldVals.bel bl HVb.out) hlb).mono ?_
  rintro e w2 ⟨rfl, hb2⟩
  rw [Hb.out]
  (have hz2 := hb2.sz; obtain ⟨hk2_0, hf2_0, hl2_0, hn2_0⟩ := hb2.lay (w.heap.size); obtain ⟨hk2_1, hf2_1, hl2_1, hn2_1⟩ := hb2.lay (w.heap.size + 1); obtain ⟨hk2_2, hf2_2, hl2_2, hn2_2⟩ := hb2.lay (w1.heap.size))
  go_wp2_with (fail)
  all_goals exact bodyPost_ret (v := .tuple #[.agg #[.int .i64 0, .int .i64 0], .bool true]) (by simp [results, Try.results35, go_sem, hk1_1, hf1_1, hk2_1, hf2_1, hn1_1, hn2_1, hl1_1, hl2_1]) rfl ⟨by rw [HE.out], bl⟩
 ·
  have Ha := hide ha
  have Hb := hide hb
  have HE : Hid ((TPattern.mk 15 t n lo hi [a, b]).fb = ⟨0, 0, true⟩) := by show _ = _; simp [TPattern.fb, TPattern.fbs, ha, hb]
  clear ha hb
  go_enter Try.func35, Try.ntmps35
  go_wp2_with (fail)
  refine (HA.out S _ _ (Dat.HoldVals.bel bl HVa.out) hla).mono ?_
  rintro e w1 ⟨rfl, hb1⟩
  rw [Ha.out]
  (have hz1 := hb1.sz; obtain ⟨hk1_0, hf1_0, hl1_0, hn1_0⟩ := hb1.lay (w.heap.size); obtain ⟨hk1_1, hf1_1, hl1_1, hn1_1⟩ := hb1.lay (w.heap.size + 1); obtain ⟨hk1_2, hf1_2, hl1_2, hn1_2⟩ := hb1.lay (b1))
  go_wp2_with (fail)
  refine (HB.out S _ _ (Dat.HoldVals.bel bl HVb.out) hlb).mono ?_
  rintro e w2 ⟨rfl, hb2⟩
  rw [Hb.out]
  (have hz2 := hb2.sz; obtain ⟨hk2_0, hf2_0, hl2_0, hn2_0⟩ := hb2.lay (w.heap.size); obtain ⟨hk2_1, hf2_1, hl2_1, hn2_1⟩ := hb2.lay (w.heap.size + 1); obtain ⟨hk2_2, hf2_2, hl2_2, hn2_2⟩ := hb2.lay (w1.heap.size))
  go_wp2_with (fail)
  all_goals exact bodyPost_ret (v := .tuple #[.agg #[.int .i64 0, .int .i64 0], .bool true]) (by simp [results, Try.results35, go_sem, hk1_1, hf1_1, hk2_1, hf2_1, hn1_1, hn2_1, hl1_1, hl2_1]) rfl ⟨by rw [HE.out], bl⟩
 ·
  have Ha := hide ha
  have Hb := hide hb
  have HE : Hid ((TPattern.mk 15 t n lo hi [a, b]).fb = ⟨bits .or .i64 a.fb.lo b.fb.lo, bits .or .i64 a.fb.hi b.fb.hi, false⟩) := by show _ = _; simp [TPattern.fb, TPattern.fbs, ha, hb]
  clear ha hb
  go_enter Try.func35, Try.ntmps35
  go_wp2_with (fail)
  refine (HA.out S _ _ (Dat.HoldVals.bel bl HVa.out) hla).mono ?_
  rintro e w1 ⟨rfl, hb1⟩
  rw [Ha.out]
  (have hz1 := hb1.sz; obtain ⟨hk1_0, hf1_0, hl1_0, hn1_0⟩ := hb1.lay (w.heap.size); obtain ⟨hk1_1, hf1_1, hl1_1, hn1_1⟩ := hb1.lay (w.heap.size + 1); obtain ⟨hk1_2, hf1_2, hl1_2, hn1_2⟩ := hb1.lay (b1))
  go_wp2_with (fail)
  refine (HB.out S _ _ (Dat.HoldVals.bel bl HVb.out) hlb).mono ?_
  rintro e w2 ⟨rfl, hb2⟩
  rw [Hb.out]
  (have hz2 := hb2.sz; obtain ⟨hk2_0, hf2_0, hl2_0, hn2_0⟩ := hb2.lay (w.heap.size); obtain ⟨hk2_1, hf2_1, hl2_1, hn2_1⟩ := hb2.lay (w.heap.size + 1); obtain ⟨hk2_2, hf2_2, hl2_2, hn2_2⟩ := hb2.lay (w1.heap.size))
  go_wp2_with (fail)
  refine (implUnionCsets_any _ _ _ _ _).mono ?_
  rintro e w3 ⟨rfl, hb3⟩
  (have hz3 := hb3.sz; obtain ⟨hk3_0, hf3_0, hl3_0, hn3_0⟩ := hb3.lay (w.heap.size); obtain ⟨hk3_1, hf3_1, hl3_1, hn3_1⟩ := hb3.lay (w.heap.size + 1); obtain ⟨hk3_2, hf3_2, hl3_2, hn3_2⟩ := hb3.lay (w1.heap.size); obtain ⟨hk3_3, hf3_3, hl3_3, hn3_3⟩ := hb3.lay (w2.heap.size))
  go_wp2_with (fail)
  all_goals exact bodyPost_ret (v := .tuple #[.agg #[.int .i64 (bits .or .i64 a.fb.lo b.fb.lo), .int .i64 (bits .or .i64 a.fb.hi b.fb.hi)], .bool false]) (by simp [results, Try.results35, go_sem, hk1_1, hf1_1, hk2_1, hf2_1, hk3_1, hf3_1, hn1_1, hn2_1, hn3_1, hl1_1, hl2_1, hl3_1]) rfl ⟨by rw [HE.out], bl⟩
theorem firstBytes_any (vars : Int) : ∀ t : TPattern, FirstC 35 vars t := by
 refine TPattern.ind fun op t n lo hi ks IH => ?_
 intro S w vs hv hvl
 by_cases h1 : op = 1
 ·
  subst h1; exact firstBytes_1 vars t n lo hi ks S w vs hv hvl
 by_cases h7 : op = 7
 ·
  subst h7; exact firstBytes_7 vars t n lo hi ks S w vs hv hvl
 by_cases h9 : op = 9
 ·
  subst h9; exact firstBytes_9 vars t n lo hi ks S w vs hv hvl
 by_cases h23 : op = 23
 ·
  subst h23; exact firstBytes_23 vars t n lo hi ks S w vs hv hvl
 by_cases h14 : op = 14
 ·
  subst h14
  obtain ⟨a, b, rfl, -, -⟩ := TPattern.kids2 hvl rfl
  exact firstBytes_14 vars t n lo hi a b (IH 0 (by simp)) S w vs hv hvl
 by_cases h15 : op = 15
 ·
  subst h15
  obtain ⟨a, b, rfl, -, -⟩ := TPattern.kids2 hvl rfl
  exact firstBytes_15 vars t n lo hi a b (IH 0 (by simp)) (IH 1 (by simp)) S w vs hv hvl
 by_cases h16 : op = 16
 ·
  subst h16
  obtain ⟨a, rfl, -⟩ := TPattern.kids1 hvl rfl
  exact firstBytes_16 vars t n lo hi a (IH 0 (by simp)) S w vs hv hvl
 by_cases h17 : op = 17
 ·
  subst h17
  obtain ⟨a, rfl, -⟩ := TPattern.kids1 hvl rfl
  exact firstBytes_17 vars t n lo hi a (IH 0 (by simp)) S w vs hv hvl
 exact firstBytes_x vars t n lo hi ks op h1 h7 h9 h14 h15 h16 h17 h23 S w vs hv hvl
end Go.Proofs.Ytdjbfneniohaaaa
