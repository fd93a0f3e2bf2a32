/- The size of a value in a store: plain. -/
import Derived.Test.YteihfioaahemkaaGreatDoorPr
import Derived.Test.YteihfioaahemkaaGreatDoorPR0
import Derived.Test.YteihfioaahemkaaGreatDoorPE7
import Derived.StillTailTactics
import Derived.Deep.RegionHeld3
import Derived.Test.YteihfioaahemkaaGreatDoorPShelf
import Derived.Test.YteihfioaahemkaaGreatDoorPR3
namespace Go.Proofs.YteihfioaahemkaaGreatDoor
set_option linter.unusedVariables false
set_option linter.unusedSimpArgs false
set_option maxRecDepth 100000
open Go.RowKit
def sizeV (s : TStore) (v : VVal) : Int × Int :=
 if v.k = 3 then (((csText v.lo v.hi).size : Int), 0)
 else if v.k = 4 ∨ v.k = 7 then ((objAt s v.n).items.length, 0)
 else if v.k = 5 ∨ v.k = 6 then ((objAt s v.n).keys.length, 0)
 else if v.k = 11 then ((vAt (objAt s v.n).items 2).n, 0)
 else if ttB v = true then ((ttT v).size, 0) else (0, 114)
theorem in_obj2 {s : TStore} {k n i : Int} {t : ByteArray} {lo hi : Int} (h : inB s ⟨k, n, i, t, lo, hi⟩ = true) (hk : k = 4 ∨ k = 5 ∨ k = 6 ∨ k = 7 ∨ k = 11 ∨ k = 12) :
  ∃ m : Nat, n = m ∧ ∃ hm : m < s.objects.length, s.objects[m].kind = kindI k := by
 have hw := inB_well h
 have hn := well_n hw (by omega)
 obtain ⟨m, rfl⟩ := Int.eq_ofNat_of_zero_le hn
 have hk0 : kindI k ≠ 0 := by rcases hk with rfl | rfl | rfl | rfl | rfl | rfl <;> decide
 rw [inB_obj hw hk0] at h
 rcases Nat.lt_or_ge m s.objects.length with hlt | hge
 ·
  rw [objIn_yes (o := s.objects[m]) (by simpa using hlt) (by simp)] at h
  rw [Bool.and_eq_true, decide_eq_true_eq] at h
  exact ⟨m, rfl, hlt, h.1⟩
 ·
  rw [objIn_no (by simpa using hge)] at h; cases h
theorem coex_of {s : TStore} (h : validB s = true) {m : Nat} (hm : m < s.objects.length) (hk : s.objects[m].kind = 6) :
  ∃ tag ser : Int, ∃ (a b c : TValue) (keys : List TValue), s.objects[m] = .mk 6 tag ser [a, b, c] keys := by
 have ho := val_obj_of h m hm
 obtain ⟨kd, tag, ser, its, keys, e⟩ : ∃ kd tag ser its keys, s.objects[m] = .mk kd tag ser its keys := by cases s.objects[m]; exact ⟨_, _, _, _, _, rfl⟩
 rw [e] at hk ho
 obtain rfl : kd = 6 := hk
 rw [objB_6] at ho
 simp only [Bool.and_eq_true, decide_eq_true_eq] at ho
 have hl : its.length = 3 := ho.2.1.1.1.1.1.1.1.2
 obtain ⟨a, b, c, rfl⟩ : ∃ a b c, its = [a, b, c] := by
  match its, hl with
  | [a, b, c], _ => exact ⟨a, b, c, rfl⟩
 exact ⟨tag, ser, a, b, c, keys, e⟩
abbrev SzC (f : FuncId) (s : TStore) (v : VVal) : Prop := ∀ (S : Nat → Prop) (q : Nat) (w : World), StoreAt w S q s → v.Ok → P10 w →
 Calls Tryz.prog f #[.pointer (some ⟨q, 0, none⟩), .agg #[.int .i64 v.k, .int .i64 v.n, .int .i64 v.i, .string v.t, .int .i64 v.lo, .int .i64 v.hi]] w fun e w' =>
  e = .returned (.tuple #[.int .i64 (sizeV s v).1, .int .i64 (sizeV s v).2]) ∧ Bel w w'
end Go.Proofs.YteihfioaahemkaaGreatDoor
namespace Go.Proofs.YteihfioaahemkaaGreatDoor
set_option linter.unusedVariables false
set_option linter.unusedSimpArgs false
set_option maxRecDepth 100000
open Go.RowKit
--%quiet
set_option maxHeartbeats 1000000 in
theorem specCsetSize_any (lo hi : Int) (w : World) : Calls Tryz.prog 40 #[.agg #[.int .i64 lo, .int .i64 hi]] w fun e w' => e = .returned (.int .i64 ((csText lo hi).size : Nat)) ∧ Bel w w' := by
 go_enter Tryz.func40, Tryz.ntmps40
 go_wp2_with (go_at_call 75; refine (specCsetText_any lo hi _).mono ?_; rintro e w1 ⟨rfl, hb1⟩; have hz1 := hb1.sz; obtain ⟨hk1_0, hf1_0, hl1_0, hn1_0⟩ := hb1.lay (w.heap.size); (try simp only [VVal.val]))
 all_goals
  go_returns
  exact ⟨rfl, bl⟩
set_option maxHeartbeats 4000000 in
theorem specSz_3 (n i : Int) (t : ByteArray) (lo hi : Int) (s : TStore) : SzC 20 s ⟨3, n, i, t, lo, hi⟩ := by
 intro S q w hs hv ht10
 obtain ⟨x0, x1, x2, x3, x4, x5, x6, x7, x8, x9, x10, x11, x12⟩ := s
 have HSt := hide hs
 obtain ⟨A0, c0, A1, c1, A2, c2, A3, c3, A6, c6, A7, c7, A8, c8, hq, e0, e1, e2, e3, e4, e5, e6, e7, e8, e9, e10, e11, e12, hlc0, hcm0, hlc1, hcm1, hlc2, hcm2, hlc3, hcm3, hlc6, hcm6, hlc7, hcm7, hlc8, hcm8, g4, g5, g10, g11, g12, -, -, -, -, -, -, -⟩ := StoreAt.opn hs
 clear hs
 have hqn : ¬ q = w.heap.size := by omega
 have hts := hv.t
 unfold maxLen at hts
 simp only at hts
 have hbw : Bel w w := Bel.refl w
 have RR := hide (show sizeV (TStore.mk x0 x1 x2 x3 x4 x5 x6 x7 x8 x9 x10 x11 x12) ⟨3, n, i, t, lo, hi⟩ = (((csText lo hi).size : Int), 0) by unfold sizeV; rw [if_pos rfl])
 go_enter Tryz.func20, Tryz.ntmps20
 have mkq := True.intro
 repeat (any_goals ((first | clear mkq | go_quiet (fail)); (try go_wp2_with (go_at_call 40; refine (specCsetSize_any lo hi _).mono ?_; rintro e w1 ⟨rfl, hb1⟩; (have hz1 := hb1.sz; obtain ⟨hk1_0, hf1_0, hl1_0, hn1_0⟩ := hb1.lay (w.heap.size); obtain ⟨hk1_1, hf1_1, hl1_1, hn1_1⟩ := hb1.lay (q))))))
 all_goals
  go_returns
  exact ⟨by rw [RR.out]; first | done | rfl, bl⟩
set_option maxHeartbeats 4000000 in
theorem specSz_4 (n i : Int) (t : ByteArray) (lo hi : Int) (s : TStore) (hin : inB s ⟨4, n, i, t, lo, hi⟩ = true) : SzC 20 s ⟨4, n, i, t, lo, hi⟩ := by
 intro S q w hs hv ht10
 obtain ⟨x0, x1, x2, x3, x4, x5, x6, x7, x8, x9, x10, x11, x12⟩ := s
 have HSt := hide hs
 obtain ⟨A0, c0, A1, c1, A2, c2, A3, c3, A6, c6, A7, c7, A8, c8, hq, e0, e1, e2, e3, e4, e5, e6, e7, e8, e9, e10, e11, e12, hlc0, hcm0, hlc1, hcm1, hlc2, hcm2, hlc3, hcm3, hlc6, hcm6, hlc7, hcm7, hlc8, hcm8, g4, g5, g10, g11, g12, -, -, HR2, -, -, -, -⟩ := StoreAt.opn hs
 clear hs
 have hqn : ¬ q = w.heap.size := by omega
 have hts := hv.t
 unfold maxLen at hts
 simp only at hts
 have hbw : Bel w w := Bel.refl w
 obtain ⟨m, rfl, hm, hkd⟩ := in_obj2 hin (by omega)
 clear hin hkd
 simp only [TStore.objects_mk] at hm
 (obtain ⟨b1, o1, x1_0, x1_1, x1_2, x1_3, x1_4, A1_3, C1_3, A1_4, C1_4, hA1, hS1, hl1, hx1, hv1, g1_0, g1_1, g1_2, g1_3, g1_4, c1_0, c1_1, c1_2, c1_3, c1_4⟩ := TObject.at HR2.out m hm; subst hA1; have HV1 := hide (Dat.HoldVals.bel hbw hv1); have hh1 := hbw.box b1 hl1; have hw1 := Nat.lt_of_lt_of_le hl1 (Bel.size hbw); replace c1_0 := (hh1 _).trans c1_0; replace c1_1 := (hh1 _).trans c1_1; replace c1_2 := (hh1 _).trans c1_2; replace c1_3 := (hh1 _).trans c1_3; replace c1_4 := (hh1 _).trans c1_4; have HX1 := hide hx1; have GR1_3 := hide g1_3; have GR1_4 := hide g1_4; clear hh1 hv1 hx1 hS1 g1_3 g1_4)
 have hll := GR1_3.out.1
 have hlm := GR1_3.out.2.1
 simp only [List.length_map] at hll
 unfold maxLen at hlm
 have dm : decide ((m : Int) < (x2.length : Int)) = true := by simp; omega
 have hne1 : ¬ b1 = w.heap.size := by omega
 have hne3 : ¬ b1 = w.heap.size + 1 := by omega
 have hqn1 : ¬ q = w.heap.size + 1 := by omega
 have RR := hide (show sizeV (TStore.mk x0 x1 x2 x3 x4 x5 x6 x7 x8 x9 x10 x11 x12) ⟨4, m, i, t, lo, hi⟩ = ((x1_3.length : Int), 0) by unfold sizeV; rw [if_neg (by simp), if_pos (by simp)]; show (((objAt _ (m : Int)).items.length : Int), (0 : Int)) = _; rw [objAt_get (by exact hm)]; show (((TObject.items x2[m]).length : Int), (0 : Int)) = _; rw [HX1.out]; rfl)
 exact rk50
set_option maxHeartbeats 4000000 in
theorem specSz_7 (n i : Int) (t : ByteArray) (lo hi : Int) (s : TStore) (hin : inB s ⟨7, n, i, t, lo, hi⟩ = true) : SzC 20 s ⟨7, n, i, t, lo, hi⟩ := by
 intro S q w hs hv ht10
 obtain ⟨x0, x1, x2, x3, x4, x5, x6, x7, x8, x9, x10, x11, x12⟩ := s
 have HSt := hide hs
 obtain ⟨A0, c0, A1, c1, A2, c2, A3, c3, A6, c6, A7, c7, A8, c8, hq, e0, e1, e2, e3, e4, e5, e6, e7, e8, e9, e10, e11, e12, hlc0, hcm0, hlc1, hcm1, hlc2, hcm2, hlc3, hcm3, hlc6, hcm6, hlc7, hcm7, hlc8, hcm8, g4, g5, g10, g11, g12, -, -, HR2, -, -, -, -⟩ := StoreAt.opn hs
 clear hs
 have hqn : ¬ q = w.heap.size := by omega
 have hts := hv.t
 unfold maxLen at hts
 simp only at hts
 have hbw : Bel w w := Bel.refl w
 obtain ⟨m, rfl, hm, hkd⟩ := in_obj2 hin (by omega)
 clear hin hkd
 simp only [TStore.objects_mk] at hm
 (obtain ⟨b1, o1, x1_0, x1_1, x1_2, x1_3, x1_4, A1_3, C1_3, A1_4, C1_4, hA1, hS1, hl1, hx1, hv1, g1_0, g1_1, g1_2, g1_3, g1_4, c1_0, c1_1, c1_2, c1_3, c1_4⟩ := TObject.at HR2.out m hm; subst hA1; have HV1 := hide (Dat.HoldVals.bel hbw hv1); have hh1 := hbw.box b1 hl1; have hw1 := Nat.lt_of_lt_of_le hl1 (Bel.size hbw); replace c1_0 := (hh1 _).trans c1_0; replace c1_1 := (hh1 _).trans c1_1; replace c1_2 := (hh1 _).trans c1_2; replace c1_3 := (hh1 _).trans c1_3; replace c1_4 := (hh1 _).trans c1_4; have HX1 := hide hx1; have GR1_3 := hide g1_3; have GR1_4 := hide g1_4; clear hh1 hv1 hx1 hS1 g1_3 g1_4)
 have hll := GR1_3.out.1
 have hlm := GR1_3.out.2.1
 simp only [List.length_map] at hll
 unfold maxLen at hlm
 have dm : decide ((m : Int) < (x2.length : Int)) = true := by simp; omega
 have hne1 : ¬ b1 = w.heap.size := by omega
 have hne3 : ¬ b1 = w.heap.size + 1 := by omega
 have hqn1 : ¬ q = w.heap.size + 1 := by omega
 have RR := hide (show sizeV (TStore.mk x0 x1 x2 x3 x4 x5 x6 x7 x8 x9 x10 x11 x12) ⟨7, m, i, t, lo, hi⟩ = ((x1_3.length : Int), 0) by unfold sizeV; rw [if_neg (by simp), if_pos (by simp)]; show (((objAt _ (m : Int)).items.length : Int), (0 : Int)) = _; rw [objAt_get (by exact hm)]; show (((TObject.items x2[m]).length : Int), (0 : Int)) = _; rw [HX1.out]; rfl)
 exact rk50
set_option maxHeartbeats 4000000 in
theorem specSz_5 (n i : Int) (t : ByteArray) (lo hi : Int) (s : TStore) (hin : inB s ⟨5, n, i, t, lo, hi⟩ = true) : SzC 20 s ⟨5, n, i, t, lo, hi⟩ := by
 intro S q w hs hv ht10
 obtain ⟨x0, x1, x2, x3, x4, x5, x6, x7, x8, x9, x10, x11, x12⟩ := s
 have HSt := hide hs
 obtain ⟨A0, c0, A1, c1, A2, c2, A3, c3, A6, c6, A7, c7, A8, c8, hq, e0, e1, e2, e3, e4, e5, e6, e7, e8, e9, e10, e11, e12, hlc0, hcm0, hlc1, hcm1, hlc2, hcm2, hlc3, hcm3, hlc6, hcm6, hlc7, hcm7, hlc8, hcm8, g4, g5, g10, g11, g12, -, -, HR2, -, -, -, -⟩ := StoreAt.opn hs
 clear hs
 have hqn : ¬ q = w.heap.size := by omega
 have hts := hv.t
 unfold maxLen at hts
 simp only at hts
 have hbw : Bel w w := Bel.refl w
 obtain ⟨m, rfl, hm, hkd⟩ := in_obj2 hin (by omega)
 clear hin hkd
 simp only [TStore.objects_mk] at hm
 (obtain ⟨b1, o1, x1_0, x1_1, x1_2, x1_3, x1_4, A1_3, C1_3, A1_4, C1_4, hA1, hS1, hl1, hx1, hv1, g1_0, g1_1, g1_2, g1_3, g1_4, c1_0, c1_1, c1_2, c1_3, c1_4⟩ := TObject.at HR2.out m hm; subst hA1; have HV1 := hide (Dat.HoldVals.bel hbw hv1); have hh1 := hbw.box b1 hl1; have hw1 := Nat.lt_of_lt_of_le hl1 (Bel.size hbw); replace c1_0 := (hh1 _).trans c1_0; replace c1_1 := (hh1 _).trans c1_1; replace c1_2 := (hh1 _).trans c1_2; replace c1_3 := (hh1 _).trans c1_3; replace c1_4 := (hh1 _).trans c1_4; have HX1 := hide hx1; have GR1_3 := hide g1_3; have GR1_4 := hide g1_4; clear hh1 hv1 hx1 hS1 g1_3 g1_4)
 have hll := GR1_4.out.1
 have hlm := GR1_4.out.2.1
 simp only [List.length_map] at hll
 unfold maxLen at hlm
 have dm : decide ((m : Int) < (x2.length : Int)) = true := by simp; omega
 have hne1 : ¬ b1 = w.heap.size := by omega
 have hne3 : ¬ b1 = w.heap.size + 1 := by omega
 have hqn1 : ¬ q = w.heap.size + 1 := by omega
 have RR := hide (show sizeV (TStore.mk x0 x1 x2 x3 x4 x5 x6 x7 x8 x9 x10 x11 x12) ⟨5, m, i, t, lo, hi⟩ = ((x1_4.length : Int), 0) by unfold sizeV; rw [if_neg (by simp), if_neg (by simp), if_pos (by simp)]; show (((objAt _ (m : Int)).keys.length : Int), (0 : Int)) = _; rw [objAt_get (by exact hm)]; show (((TObject.keys x2[m]).length : Int), (0 : Int)) = _; rw [HX1.out]; rfl)
 exact rk50
set_option maxHeartbeats 4000000 in
theorem specSz_6 (n i : Int) (t : ByteArray) (lo hi : Int) (s : TStore) (hin : inB s ⟨6, n, i, t, lo, hi⟩ = true) : SzC 20 s ⟨6, n, i, t, lo, hi⟩ := by
 intro S q w hs hv ht10
 obtain ⟨x0, x1, x2, x3, x4, x5, x6, x7, x8, x9, x10, x11, x12⟩ := s
 have HSt := hide hs
 obtain ⟨A0, c0, A1, c1, A2, c2, A3, c3, A6, c6, A7, c7, A8, c8, hq, e0, e1, e2, e3, e4, e5, e6, e7, e8, e9, e10, e11, e12, hlc0, hcm0, hlc1, hcm1, hlc2, hcm2, hlc3, hcm3, hlc6, hcm6, hlc7, hcm7, hlc8, hcm8, g4, g5, g10, g11, g12, -, -, HR2, -, -, -, -⟩ := StoreAt.opn hs
 clear hs
 have hqn : ¬ q = w.heap.size := by omega
 have hts := hv.t
 unfold maxLen at hts
 simp only at hts
 have hbw : Bel w w := Bel.refl w
 obtain ⟨m, rfl, hm, hkd⟩ := in_obj2 hin (by omega)
 clear hin hkd
 simp only [TStore.objects_mk] at hm
 (obtain ⟨b1, o1, x1_0, x1_1, x1_2, x1_3, x1_4, A1_3, C1_3, A1_4, C1_4, hA1, hS1, hl1, hx1, hv1, g1_0, g1_1, g1_2, g1_3, g1_4, c1_0, c1_1, c1_2, c1_3, c1_4⟩ := TObject.at HR2.out m hm; subst hA1; have HV1 := hide (Dat.HoldVals.bel hbw hv1); have hh1 := hbw.box b1 hl1; have hw1 := Nat.lt_of_lt_of_le hl1 (Bel.size hbw); replace c1_0 := (hh1 _).trans c1_0; replace c1_1 := (hh1 _).trans c1_1; replace c1_2 := (hh1 _).trans c1_2; replace c1_3 := (hh1 _).trans c1_3; replace c1_4 := (hh1 _).trans c1_4; have HX1 := hide hx1; have GR1_3 := hide g1_3; have GR1_4 := hide g1_4; clear hh1 hv1 hx1 hS1 g1_3 g1_4)
 have hll := GR1_4.out.1
 have hlm := GR1_4.out.2.1
 simp only [List.length_map] at hll
 unfold maxLen at hlm
 have dm : decide ((m : Int) < (x2.length : Int)) = true := by simp; omega
 have hne1 : ¬ b1 = w.heap.size := by omega
 have hne3 : ¬ b1 = w.heap.size + 1 := by omega
 have hqn1 : ¬ q = w.heap.size + 1 := by omega
 have RR := hide (show sizeV (TStore.mk x0 x1 x2 x3 x4 x5 x6 x7 x8 x9 x10 x11 x12) ⟨6, m, i, t, lo, hi⟩ = ((x1_4.length : Int), 0) by unfold sizeV; rw [if_neg (by simp), if_neg (by simp), if_pos (by simp)]; show (((objAt _ (m : Int)).keys.length : Int), (0 : Int)) = _; rw [objAt_get (by exact hm)]; show (((TObject.keys x2[m]).length : Int), (0 : Int)) = _; rw [HX1.out]; rfl)
 exact rk50
set_option maxHeartbeats 4000000 in
theorem specSz_11 (n i : Int) (t : ByteArray) (lo hi : Int) (s : TStore) (hval : validB s = true) (hin : inB s ⟨11, n, i, t, lo, hi⟩ = true) : SzC 20 s ⟨11, n, i, t, lo, hi⟩ := by
 intro S q w hs hv ht10
 obtain ⟨x0, x1, x2, x3, x4, x5, x6, x7, x8, x9, x10, x11, x12⟩ := s
 have HSt := hide hs
 obtain ⟨A0, c0, A1, c1, A2, c2, A3, c3, A6, c6, A7, c7, A8, c8, hq, e0, e1, e2, e3, e4, e5, e6, e7, e8, e9, e10, e11, e12, hlc0, hcm0, hlc1, hcm1, hlc2, hcm2, hlc3, hcm3, hlc6, hcm6, hlc7, hcm7, hlc8, hcm8, g4, g5, g10, g11, g12, -, -, HR2, -, -, -, -⟩ := StoreAt.opn hs
 clear hs
 have hqn : ¬ q = w.heap.size := by omega
 have hts := hv.t
 unfold maxLen at hts
 simp only at hts
 have hbw : Bel w w := Bel.refl w
 obtain ⟨m, rfl, hm, hkd⟩ := in_obj2 hin (by omega)
 rw [show kindI 11 = 6 by decide] at hkd
 obtain ⟨tag, ser, a, b, c, keys, he⟩ := coex_of hval hm hkd
 clear hin hkd hval
 simp only [TStore.objects_mk] at hm he
 (obtain ⟨b1, o1, x1_0, x1_1, x1_2, x1_3, x1_4, A1_3, C1_3, A1_4, C1_4, hA1, hS1, hl1, hx1, hv1, g1_0, g1_1, g1_2, g1_3, g1_4, c1_0, c1_1, c1_2, c1_3, c1_4⟩ := TObject.at HR2.out m hm; subst hA1; have HV1 := hide (Dat.HoldVals.bel hbw hv1); have hh1 := hbw.box b1 hl1; have hw1 := Nat.lt_of_lt_of_le hl1 (Bel.size hbw); replace c1_0 := (hh1 _).trans c1_0; replace c1_1 := (hh1 _).trans c1_1; replace c1_2 := (hh1 _).trans c1_2; replace c1_3 := (hh1 _).trans c1_3; replace c1_4 := (hh1 _).trans c1_4; have HX1 := hide hx1; have GR1_3 := hide g1_3; have GR1_4 := hide g1_4; clear hh1 hv1 hx1 hS1 g1_3 g1_4)
 obtain ⟨rfl, rfl, rfl, rfl, rfl⟩ := TObject.mk.inj (he.symm.trans HX1.out)
 (obtain ⟨b3, o3, x3_0, x3_1, x3_2, x3_3, x3_4, x3_5, hA3, hS3, hl3, hx3, hv3, g3_0, g3_1, g3_2, g3_3, g3_4, g3_5, c3_0, c3_1, c3_2, c3_3, c3_4, c3_5⟩ := TValue.at GR1_3.out 2 (by simp); subst hA3; have HV3 := hide (Dat.HoldVals.bel hbw hv3); have hh3 := hbw.box b3 hl3; have hw3 := Nat.lt_of_lt_of_le hl3 (Bel.size hbw); replace c3_0 := (hh3 _).trans c3_0; replace c3_1 := (hh3 _).trans c3_1; replace c3_2 := (hh3 _).trans c3_2; replace c3_3 := (hh3 _).trans c3_3; replace c3_4 := (hh3 _).trans c3_4; replace c3_5 := (hh3 _).trans c3_5; have HX3 := hide hx3; clear hh3 hv3 hx3 hS3; simp only [Nat.zero_mul, Nat.one_mul, Nat.add_zero, Nat.reduceMul, Nat.add_assoc, Nat.reduceAdd] at c3_0 c3_1 c3_2 c3_3 c3_4 c3_5)
 obtain rfl : c = .mk x3_0 x3_1 x3_2 x3_3 x3_4 x3_5 := HX3.out
 have dm : decide ((m : Int) < (x2.length : Int)) = true := by simp; omega
 have nv_b1_0 : ¬ b1 = w.heap.size := by omega
 have nv_b1_1 : ¬ b1 = w.heap.size + 1 := by omega
 have nv_b1_2 : ¬ b1 = w.heap.size + 1 + 1 := by omega
 have nv_b3_0 : ¬ b3 = w.heap.size := by omega
 have nv_b3_1 : ¬ b3 = w.heap.size + 1 := by omega
 have nv_b3_2 : ¬ b3 = w.heap.size + 1 + 1 := by omega
 have nv_q_0 : ¬ q = w.heap.size := by omega
 have nv_q_1 : ¬ q = w.heap.size + 1 := by omega
 have nv_q_2 : ¬ q = w.heap.size + 1 + 1 := by omega
 have RR := hide (show sizeV (TStore.mk x0 x1 x2 x3 x4 x5 x6 x7 x8 x9 x10 x11 x12) ⟨11, m, i, t, lo, hi⟩ = (x3_1, 0) by
  have q1 : objAt (TStore.mk x0 x1 x2 x3 x4 x5 x6 x7 x8 x9 x10 x11 x12) (m : Int) = .mk 6 tag ser [a, b, .mk x3_0 x3_1 x3_2 x3_3 x3_4 x3_5] keys := (objAt_get (s := (TStore.mk x0 x1 x2 x3 x4 x5 x6 x7 x8 x9 x10 x11 x12)) hm).trans he
  unfold sizeV; rw [if_neg (by simp), if_neg (by simp), if_neg (by simp), if_pos rfl]; simp only [q1, TObject.items, vAt_2]; rfl)
 exact rk50
set_option maxHeartbeats 4000000 in
theorem specSz_out (k : Int) (hk : k ≠ 3 ∧ k ≠ 4 ∧ k ≠ 5 ∧ k ≠ 6 ∧ k ≠ 7 ∧ k ≠ 11) (n i : Int) (t : ByteArray) (lo hi : Int) (s : TStore) : SzC 20 s ⟨k, n, i, t, lo, hi⟩ := by
 intro S q w hs hv ht10
 obtain ⟨x0, x1, x2, x3, x4, x5, x6, x7, x8, x9, x10, x11, x12⟩ := s
 have HSt := hide hs
 obtain ⟨A0, c0, A1, c1, A2, c2, A3, c3, A6, c6, A7, c7, A8, c8, hq, e0, e1, e2, e3, e4, e5, e6, e7, e8, e9, e10, e11, e12, hlc0, hcm0, hlc1, hcm1, hlc2, hcm2, hlc3, hcm3, hlc6, hcm6, hlc7, hcm7, hlc8, hcm8, g4, g5, g10, g11, g12, -, -, -, -, -, -, -⟩ := StoreAt.opn hs
 clear hs
 have hqn : ¬ q = w.heap.size := by omega
 have hts := hv.t
 unfold maxLen at hts
 simp only at hts
 have hbw : Bel w w := Bel.refl w
 have HT := hide ht10
 have HV := hide hv
 have RR := hide (show sizeV (TStore.mk x0 x1 x2 x3 x4 x5 x6 x7 x8 x9 x10 x11 x12) ⟨k, n, i, t, lo, hi⟩ = (if ttB ⟨k, n, i, t, lo, hi⟩ = true then (((ttT ⟨k, n, i, t, lo, hi⟩).size : Int), 0) else (0, 114)) by unfold sizeV; rw [if_neg (by simp; omega), if_neg (by simp; omega), if_neg (by simp; omega), if_neg (by simp; omega)])
 have tk3 : (k == 3) = false := by simp; omega
 have tk4 : (k == 4) = false := by simp; omega
 have tk5 : (k == 5) = false := by simp; omega
 have tk6 : (k == 6) = false := by simp; omega
 have tk7 : (k == 7) = false := by simp; omega
 have tk11 : (k == 11) = false := by simp; omega
 clear ht10 hv
 obtain ⟨T0, hT0⟩ : ∃ T0, ttT ⟨k, n, i, t, lo, hi⟩ = T0 := ⟨_, rfl⟩
 have HT0 := hide hT0
 clear hT0
 cases hB : ttB ⟨k, n, i, t, lo, hi⟩
 ·
  have HB := hide hB
  have RR2 := hide (show sizeV (TStore.mk x0 x1 x2 x3 x4 x5 x6 x7 x8 x9 x10 x11 x12) ⟨k, n, i, t, lo, hi⟩ = (0, 114) by rw [RR.out, HB.out]; rfl)
  exact rk79
 ·
  have HB := hide hB
  have RR2 := hide (show sizeV (TStore.mk x0 x1 x2 x3 x4 x5 x6 x7 x8 x9 x10 x11 x12) ⟨k, n, i, t, lo, hi⟩ = ((T0.size : Int), 0) by rw [RR.out, HB.out, HT0.out]; rfl)
  exact rk79
theorem specSz_any (s : TStore) (v : VVal) (hval : validB s = true) (hin : inB s v = true) : SzC 20 s v := by
 obtain ⟨k, n, i, t, lo, hi⟩ := v
 by_cases h3 : k = 3
 ·
  subst h3; exact specSz_3 n i t lo hi s
 by_cases h4 : k = 4
 ·
  subst h4; exact specSz_4 n i t lo hi s hin
 by_cases h5 : k = 5
 ·
  subst h5; exact specSz_5 n i t lo hi s hin
 by_cases h6 : k = 6
 ·
  subst h6; exact specSz_6 n i t lo hi s hin
 by_cases h7 : k = 7
 ·
  subst h7; exact specSz_7 n i t lo hi s hin
 by_cases h11 : k = 11
 ·
  subst h11; exact specSz_11 n i t lo hi s hval hin
 exact specSz_out k ⟨h3, h4, h5, h6, h7, h11⟩ n i t lo hi s
end Go.Proofs.YteihfioaahemkaaGreatDoor
namespace Go.Proofs.YteihfioaahemkaaGreatDoor
set_option linter.unusedVariables false
set_option linter.unusedSimpArgs false
set_option maxRecDepth 100000
open Go.RowKit
--%quiet
set_option maxHeartbeats 1000000 in
theorem implCsetSize_any (lo hi : Int) (w : World) : Calls Tryz.prog 47 #[.agg #[.int .i64 lo, .int .i64 hi]] w fun e w' => e = .returned (.int .i64 ((csText lo hi).size : Nat)) ∧ Bel w w' := by
 go_enter Tryz.func47, Tryz.ntmps47
 go_wp2_with (go_at_call 82; refine (implCsetText_any lo hi _).mono ?_; rintro e w1 ⟨rfl, hb1⟩; have hz1 := hb1.sz; obtain ⟨hk1_0, hf1_0, hl1_0, hn1_0⟩ := hb1.lay (w.heap.size); (try simp only [VVal.val]))
 all_goals
  go_returns
  exact ⟨rfl, bl⟩
set_option maxHeartbeats 4000000 in
theorem implSz_3 (n i : Int) (t : ByteArray) (lo hi : Int) (s : TStore) : SzC 28 s ⟨3, n, i, t, lo, hi⟩ := by
 intro S q w hs hv ht10
 obtain ⟨x0, x1, x2, x3, x4, x5, x6, x7, x8, x9, x10, x11, x12⟩ := s
 have HSt := hide hs
 obtain ⟨A0, c0, A1, c1, A2, c2, A3, c3, A6, c6, A7, c7, A8, c8, hq, e0, e1, e2, e3, e4, e5, e6, e7, e8, e9, e10, e11, e12, hlc0, hcm0, hlc1, hcm1, hlc2, hcm2, hlc3, hcm3, hlc6, hcm6, hlc7, hcm7, hlc8, hcm8, g4, g5, g10, g11, g12, -, -, -, -, -, -, -⟩ := StoreAt.opn hs
 clear hs
 have hqn : ¬ q = w.heap.size := by omega
 have hts := hv.t
 unfold maxLen at hts
 simp only at hts
 have hbw : Bel w w := Bel.refl w
 have RR := hide (show sizeV (TStore.mk x0 x1 x2 x3 x4 x5 x6 x7 x8 x9 x10 x11 x12) ⟨3, n, i, t, lo, hi⟩ = (((csText lo hi).size : Int), 0) by unfold sizeV; rw [if_pos rfl])
 go_enter Tryz.func28, Tryz.ntmps28
 have mkq := True.intro
 repeat (any_goals ((first | clear mkq | go_quiet (fail)); (try go_wp2_with (go_at_call 47; refine (implCsetSize_any lo hi _).mono ?_; rintro e w1 ⟨rfl, hb1⟩; (have hz1 := hb1.sz; obtain ⟨hk1_0, hf1_0, hl1_0, hn1_0⟩ := hb1.lay (w.heap.size); obtain ⟨hk1_1, hf1_1, hl1_1, hn1_1⟩ := hb1.lay (q))))))
 all_goals
  go_returns
  exact ⟨by rw [RR.out]; first | done | rfl, bl⟩
set_option maxHeartbeats 4000000 in
theorem implSz_4 (n i : Int) (t : ByteArray) (lo hi : Int) (s : TStore) (hin : inB s ⟨4, n, i, t, lo, hi⟩ = true) : SzC 28 s ⟨4, n, i, t, lo, hi⟩ := by
 intro S q w hs hv ht10
 obtain ⟨x0, x1, x2, x3, x4, x5, x6, x7, x8, x9, x10, x11, x12⟩ := s
 have HSt := hide hs
 obtain ⟨A0, c0, A1, c1, A2, c2, A3, c3, A6, c6, A7, c7, A8, c8, hq, e0, e1, e2, e3, e4, e5, e6, e7, e8, e9, e10, e11, e12, hlc0, hcm0, hlc1, hcm1, hlc2, hcm2, hlc3, hcm3, hlc6, hcm6, hlc7, hcm7, hlc8, hcm8, g4, g5, g10, g11, g12, -, -, HR2, -, -, -, -⟩ := StoreAt.opn hs
 clear hs
 have hqn : ¬ q = w.heap.size := by omega
 have hts := hv.t
 unfold maxLen at hts
 simp only at hts
 have hbw : Bel w w := Bel.refl w
 obtain ⟨m, rfl, hm, hkd⟩ := in_obj2 hin (by omega)
 clear hin hkd
 simp only [TStore.objects_mk] at hm
 (obtain ⟨b1, o1, x1_0, x1_1, x1_2, x1_3, x1_4, A1_3, C1_3, A1_4, C1_4, hA1, hS1, hl1, hx1, hv1, g1_0, g1_1, g1_2, g1_3, g1_4, c1_0, c1_1, c1_2, c1_3, c1_4⟩ := TObject.at HR2.out m hm; subst hA1; have HV1 := hide (Dat.HoldVals.bel hbw hv1); have hh1 := hbw.box b1 hl1; have hw1 := Nat.lt_of_lt_of_le hl1 (Bel.size hbw); replace c1_0 := (hh1 _).trans c1_0; replace c1_1 := (hh1 _).trans c1_1; replace c1_2 := (hh1 _).trans c1_2; replace c1_3 := (hh1 _).trans c1_3; replace c1_4 := (hh1 _).trans c1_4; have HX1 := hide hx1; have GR1_3 := hide g1_3; have GR1_4 := hide g1_4; clear hh1 hv1 hx1 hS1 g1_3 g1_4)
 have hll := GR1_3.out.1
 have hlm := GR1_3.out.2.1
 simp only [List.length_map] at hll
 unfold maxLen at hlm
 have dm : decide ((m : Int) < (x2.length : Int)) = true := by simp; omega
 have hne1 : ¬ b1 = w.heap.size := by omega
 have hne3 : ¬ b1 = w.heap.size + 1 := by omega
 have hqn1 : ¬ q = w.heap.size + 1 := by omega
 have RR := hide (show sizeV (TStore.mk x0 x1 x2 x3 x4 x5 x6 x7 x8 x9 x10 x11 x12) ⟨4, m, i, t, lo, hi⟩ = ((x1_3.length : Int), 0) by unfold sizeV; rw [if_neg (by simp), if_pos (by simp)]; show (((objAt _ (m : Int)).items.length : Int), (0 : Int)) = _; rw [objAt_get (by exact hm)]; show (((TObject.items x2[m]).length : Int), (0 : Int)) = _; rw [HX1.out]; rfl)
 exact rk51
set_option maxHeartbeats 4000000 in
theorem implSz_7 (n i : Int) (t : ByteArray) (lo hi : Int) (s : TStore) (hin : inB s ⟨7, n, i, t, lo, hi⟩ = true) : SzC 28 s ⟨7, n, i, t, lo, hi⟩ := by
 intro S q w hs hv ht10
 obtain ⟨x0, x1, x2, x3, x4, x5, x6, x7, x8, x9, x10, x11, x12⟩ := s
 have HSt := hide hs
 obtain ⟨A0, c0, A1, c1, A2, c2, A3, c3, A6, c6, A7, c7, A8, c8, hq, e0, e1, e2, e3, e4, e5, e6, e7, e8, e9, e10, e11, e12, hlc0, hcm0, hlc1, hcm1, hlc2, hcm2, hlc3, hcm3, hlc6, hcm6, hlc7, hcm7, hlc8, hcm8, g4, g5, g10, g11, g12, -, -, HR2, -, -, -, -⟩ := StoreAt.opn hs
 clear hs
 have hqn : ¬ q = w.heap.size := by omega
 have hts := hv.t
 unfold maxLen at hts
 simp only at hts
 have hbw : Bel w w := Bel.refl w
 obtain ⟨m, rfl, hm, hkd⟩ := in_obj2 hin (by omega)
 clear hin hkd
 simp only [TStore.objects_mk] at hm
 (obtain ⟨b1, o1, x1_0, x1_1, x1_2, x1_3, x1_4, A1_3, C1_3, A1_4, C1_4, hA1, hS1, hl1, hx1, hv1, g1_0, g1_1, g1_2, g1_3, g1_4, c1_0, c1_1, c1_2, c1_3, c1_4⟩ := TObject.at HR2.out m hm; subst hA1; have HV1 := hide (Dat.HoldVals.bel hbw hv1); have hh1 := hbw.box b1 hl1; have hw1 := Nat.lt_of_lt_of_le hl1 (Bel.size hbw); replace c1_0 := (hh1 _).trans c1_0; replace c1_1 := (hh1 _).trans c1_1; replace c1_2 := (hh1 _).trans c1_2; replace c1_3 := (hh1 _).trans c1_3; replace c1_4 := (hh1 _).trans c1_4; have HX1 := hide hx1; have GR1_3 := hide g1_3; have GR1_4 := hide g1_4; clear hh1 hv1 hx1 hS1 g1_3 g1_4)
 have hll := GR1_3.out.1
 have hlm := GR1_3.out.2.1
 simp only [List.length_map] at hll
 unfold maxLen at hlm
 have dm : decide ((m : Int) < (x2.length : Int)) = true := by simp; omega
 have hne1 : ¬ b1 = w.heap.size := by omega
 have hne3 : ¬ b1 = w.heap.size + 1 := by omega
 have hqn1 : ¬ q = w.heap.size + 1 := by omega
 have RR := hide (show sizeV (TStore.mk x0 x1 x2 x3 x4 x5 x6 x7 x8 x9 x10 x11 x12) ⟨7, m, i, t, lo, hi⟩ = ((x1_3.length : Int), 0) by unfold sizeV; rw [if_neg (by simp), if_pos (by simp)]; show (((objAt _ (m : Int)).items.length : Int), (0 : Int)) = _; rw [objAt_get (by exact hm)]; show (((TObject.items x2[m]).length : Int), (0 : Int)) = _; rw [HX1.out]; rfl)
 exact rk51
set_option maxHeartbeats 4000000 in
theorem implSz_5 (n i : Int) (t : ByteArray) (lo hi : Int) (s : TStore) (hin : inB s ⟨5, n, i, t, lo, hi⟩ = true) : SzC 28 s ⟨5, n, i, t, lo, hi⟩ := by
 intro S q w hs hv ht10
 obtain ⟨x0, x1, x2, x3, x4, x5, x6, x7, x8, x9, x10, x11, x12⟩ := s
 have HSt := hide hs
 obtain ⟨A0, c0, A1, c1, A2, c2, A3, c3, A6, c6, A7, c7, A8, c8, hq, e0, e1, e2, e3, e4, e5, e6, e7, e8, e9, e10, e11, e12, hlc0, hcm0, hlc1, hcm1, hlc2, hcm2, hlc3, hcm3, hlc6, hcm6, hlc7, hcm7, hlc8, hcm8, g4, g5, g10, g11, g12, -, -, HR2, -, -, -, -⟩ := StoreAt.opn hs
 clear hs
 have hqn : ¬ q = w.heap.size := by omega
 have hts := hv.t
 unfold maxLen at hts
 simp only at hts
 have hbw : Bel w w := Bel.refl w
 obtain ⟨m, rfl, hm, hkd⟩ := in_obj2 hin (by omega)
 clear hin hkd
 simp only [TStore.objects_mk] at hm
 (obtain ⟨b1, o1, x1_0, x1_1, x1_2, x1_3, x1_4, A1_3, C1_3, A1_4, C1_4, hA1, hS1, hl1, hx1, hv1, g1_0, g1_1, g1_2, g1_3, g1_4, c1_0, c1_1, c1_2, c1_3, c1_4⟩ := TObject.at HR2.out m hm; subst hA1; have HV1 := hide (Dat.HoldVals.bel hbw hv1); have hh1 := hbw.box b1 hl1; have hw1 := Nat.lt_of_lt_of_le hl1 (Bel.size hbw); replace c1_0 := (hh1 _).trans c1_0; replace c1_1 := (hh1 _).trans c1_1; replace c1_2 := (hh1 _).trans c1_2; replace c1_3 := (hh1 _).trans c1_3; replace c1_4 := (hh1 _).trans c1_4; have HX1 := hide hx1; have GR1_3 := hide g1_3; have GR1_4 := hide g1_4; clear hh1 hv1 hx1 hS1 g1_3 g1_4)
 have hll := GR1_4.out.1
 have hlm := GR1_4.out.2.1
 simp only [List.length_map] at hll
 unfold maxLen at hlm
 have dm : decide ((m : Int) < (x2.length : Int)) = true := by simp; omega
 have hne1 : ¬ b1 = w.heap.size := by omega
 have hne3 : ¬ b1 = w.heap.size + 1 := by omega
 have hqn1 : ¬ q = w.heap.size + 1 := by omega
 have RR := hide (show sizeV (TStore.mk x0 x1 x2 x3 x4 x5 x6 x7 x8 x9 x10 x11 x12) ⟨5, m, i, t, lo, hi⟩ = ((x1_4.length : Int), 0) by unfold sizeV; rw [if_neg (by simp), if_neg (by simp), if_pos (by simp)]; show (((objAt _ (m : Int)).keys.length : Int), (0 : Int)) = _; rw [objAt_get (by exact hm)]; show (((TObject.keys x2[m]).length : Int), (0 : Int)) = _; rw [HX1.out]; rfl)
 exact rk51
set_option maxHeartbeats 4000000 in
theorem implSz_6 (n i : Int) (t : ByteArray) (lo hi : Int) (s : TStore) (hin : inB s ⟨6, n, i, t, lo, hi⟩ = true) : SzC 28 s ⟨6, n, i, t, lo, hi⟩ := by
 intro S q w hs hv ht10
 obtain ⟨x0, x1, x2, x3, x4, x5, x6, x7, x8, x9, x10, x11, x12⟩ := s
 have HSt := hide hs
 obtain ⟨A0, c0, A1, c1, A2, c2, A3, c3, A6, c6, A7, c7, A8, c8, hq, e0, e1, e2, e3, e4, e5, e6, e7, e8, e9, e10, e11, e12, hlc0, hcm0, hlc1, hcm1, hlc2, hcm2, hlc3, hcm3, hlc6, hcm6, hlc7, hcm7, hlc8, hcm8, g4, g5, g10, g11, g12, -, -, HR2, -, -, -, -⟩ := StoreAt.opn hs
 clear hs
 have hqn : ¬ q = w.heap.size := by omega
 have hts := hv.t
 unfold maxLen at hts
 simp only at hts
 have hbw : Bel w w := Bel.refl w
 obtain ⟨m, rfl, hm, hkd⟩ := in_obj2 hin (by omega)
 clear hin hkd
 simp only [TStore.objects_mk] at hm
 (obtain ⟨b1, o1, x1_0, x1_1, x1_2, x1_3, x1_4, A1_3, C1_3, A1_4, C1_4, hA1, hS1, hl1, hx1, hv1, g1_0, g1_1, g1_2, g1_3, g1_4, c1_0, c1_1, c1_2, c1_3, c1_4⟩ := TObject.at HR2.out m hm; subst hA1; have HV1 := hide (Dat.HoldVals.bel hbw hv1); have hh1 := hbw.box b1 hl1; have hw1 := Nat.lt_of_lt_of_le hl1 (Bel.size hbw); replace c1_0 := (hh1 _).trans c1_0; replace c1_1 := (hh1 _).trans c1_1; replace c1_2 := (hh1 _).trans c1_2; replace c1_3 := (hh1 _).trans c1_3; replace c1_4 := (hh1 _).trans c1_4; have HX1 := hide hx1; have GR1_3 := hide g1_3; have GR1_4 := hide g1_4; clear hh1 hv1 hx1 hS1 g1_3 g1_4)
 have hll := GR1_4.out.1
 have hlm := GR1_4.out.2.1
 simp only [List.length_map] at hll
 unfold maxLen at hlm
 have dm : decide ((m : Int) < (x2.length : Int)) = true := by simp; omega
 have hne1 : ¬ b1 = w.heap.size := by omega
 have hne3 : ¬ b1 = w.heap.size + 1 := by omega
 have hqn1 : ¬ q = w.heap.size + 1 := by omega
 have RR := hide (show sizeV (TStore.mk x0 x1 x2 x3 x4 x5 x6 x7 x8 x9 x10 x11 x12) ⟨6, m, i, t, lo, hi⟩ = ((x1_4.length : Int), 0) by unfold sizeV; rw [if_neg (by simp), if_neg (by simp), if_pos (by simp)]; show (((objAt _ (m : Int)).keys.length : Int), (0 : Int)) = _; rw [objAt_get (by exact hm)]; show (((TObject.keys x2[m]).length : Int), (0 : Int)) = _; rw [HX1.out]; rfl)
 exact rk51
set_option maxHeartbeats 4000000 in
theorem implSz_11 (n i : Int) (t : ByteArray) (lo hi : Int) (s : TStore) (hval : validB s = true) (hin : inB s ⟨11, n, i, t, lo, hi⟩ = true) : SzC 28 s ⟨11, n, i, t, lo, hi⟩ := by
 intro S q w hs hv ht10
 obtain ⟨x0, x1, x2, x3, x4, x5, x6, x7, x8, x9, x10, x11, x12⟩ := s
 have HSt := hide hs
 obtain ⟨A0, c0, A1, c1, A2, c2, A3, c3, A6, c6, A7, c7, A8, c8, hq, e0, e1, e2, e3, e4, e5, e6, e7, e8, e9, e10, e11, e12, hlc0, hcm0, hlc1, hcm1, hlc2, hcm2, hlc3, hcm3, hlc6, hcm6, hlc7, hcm7, hlc8, hcm8, g4, g5, g10, g11, g12, -, -, HR2, -, -, -, -⟩ := StoreAt.opn hs
 clear hs
 have hqn : ¬ q = w.heap.size := by omega
 have hts := hv.t
 unfold maxLen at hts
 simp only at hts
 have hbw : Bel w w := Bel.refl w
 obtain ⟨m, rfl, hm, hkd⟩ := in_obj2 hin (by omega)
 rw [show kindI 11 = 6 by decide] at hkd
 obtain ⟨tag, ser, a, b, c, keys, he⟩ := coex_of hval hm hkd
 clear hin hkd hval
 simp only [TStore.objects_mk] at hm he
 (obtain ⟨b1, o1, x1_0, x1_1, x1_2, x1_3, x1_4, A1_3, C1_3, A1_4, C1_4, hA1, hS1, hl1, hx1, hv1, g1_0, g1_1, g1_2, g1_3, g1_4, c1_0, c1_1, c1_2, c1_3, c1_4⟩ := TObject.at HR2.out m hm; subst hA1; have HV1 := hide (Dat.HoldVals.bel hbw hv1); have hh1 := hbw.box b1 hl1; have hw1 := Nat.lt_of_lt_of_le hl1 (Bel.size hbw); replace c1_0 := (hh1 _).trans c1_0; replace c1_1 := (hh1 _).trans c1_1; replace c1_2 := (hh1 _).trans c1_2; replace c1_3 := (hh1 _).trans c1_3; replace c1_4 := (hh1 _).trans c1_4; have HX1 := hide hx1; have GR1_3 := hide g1_3; have GR1_4 := hide g1_4; clear hh1 hv1 hx1 hS1 g1_3 g1_4)
 obtain ⟨rfl, rfl, rfl, rfl, rfl⟩ := TObject.mk.inj (he.symm.trans HX1.out)
 (obtain ⟨b3, o3, x3_0, x3_1, x3_2, x3_3, x3_4, x3_5, hA3, hS3, hl3, hx3, hv3, g3_0, g3_1, g3_2, g3_3, g3_4, g3_5, c3_0, c3_1, c3_2, c3_3, c3_4, c3_5⟩ := TValue.at GR1_3.out 2 (by simp); subst hA3; have HV3 := hide (Dat.HoldVals.bel hbw hv3); have hh3 := hbw.box b3 hl3; have hw3 := Nat.lt_of_lt_of_le hl3 (Bel.size hbw); replace c3_0 := (hh3 _).trans c3_0; replace c3_1 := (hh3 _).trans c3_1; replace c3_2 := (hh3 _).trans c3_2; replace c3_3 := (hh3 _).trans c3_3; replace c3_4 := (hh3 _).trans c3_4; replace c3_5 := (hh3 _).trans c3_5; have HX3 := hide hx3; clear hh3 hv3 hx3 hS3; simp only [Nat.zero_mul, Nat.one_mul, Nat.add_zero, Nat.reduceMul, Nat.add_assoc, Nat.reduceAdd] at c3_0 c3_1 c3_2 c3_3 c3_4 c3_5)
 obtain rfl : c = .mk x3_0 x3_1 x3_2 x3_3 x3_4 x3_5 := HX3.out
 have dm : decide ((m : Int) < (x2.length : Int)) = true := by simp; omega
 have nv_b1_0 : ¬ b1 = w.heap.size := by omega
 have nv_b1_1 : ¬ b1 = w.heap.size + 1 := by omega
 have nv_b1_2 : ¬ b1 = w.heap.size + 1 + 1 := by omega
 have nv_b3_0 : ¬ b3 = w.heap.size := by omega
 have nv_b3_1 : ¬ b3 = w.heap.size + 1 := by omega
 have nv_b3_2 : ¬ b3 = w.heap.size + 1 + 1 := by omega
 have nv_q_0 : ¬ q = w.heap.size := by omega
 have nv_q_1 : ¬ q = w.heap.size + 1 := by omega
 have nv_q_2 : ¬ q = w.heap.size + 1 + 1 := by omega
 have RR := hide (show sizeV (TStore.mk x0 x1 x2 x3 x4 x5 x6 x7 x8 x9 x10 x11 x12) ⟨11, m, i, t, lo, hi⟩ = (x3_1, 0) by
  have q1 : objAt (TStore.mk x0 x1 x2 x3 x4 x5 x6 x7 x8 x9 x10 x11 x12) (m : Int) = .mk 6 tag ser [a, b, .mk x3_0 x3_1 x3_2 x3_3 x3_4 x3_5] keys := (objAt_get (s := (TStore.mk x0 x1 x2 x3 x4 x5 x6 x7 x8 x9 x10 x11 x12)) hm).trans he
  unfold sizeV; rw [if_neg (by simp), if_neg (by simp), if_neg (by simp), if_pos rfl]; simp only [q1, TObject.items, vAt_2]; rfl)
 exact rk51
set_option maxHeartbeats 4000000 in
theorem implSz_out (k : Int) (hk : k ≠ 3 ∧ k ≠ 4 ∧ k ≠ 5 ∧ k ≠ 6 ∧ k ≠ 7 ∧ k ≠ 11) (n i : Int) (t : ByteArray) (lo hi : Int) (s : TStore) : SzC 28 s ⟨k, n, i, t, lo, hi⟩ := by
 intro S q w hs hv ht10
 obtain ⟨x0, x1, x2, x3, x4, x5, x6, x7, x8, x9, x10, x11, x12⟩ := s
 have HSt := hide hs
 obtain ⟨A0, c0, A1, c1, A2, c2, A3, c3, A6, c6, A7, c7, A8, c8, hq, e0, e1, e2, e3, e4, e5, e6, e7, e8, e9, e10, e11, e12, hlc0, hcm0, hlc1, hcm1, hlc2, hcm2, hlc3, hcm3, hlc6, hcm6, hlc7, hcm7, hlc8, hcm8, g4, g5, g10, g11, g12, -, -, -, -, -, -, -⟩ := StoreAt.opn hs
 clear hs
 have hqn : ¬ q = w.heap.size := by omega
 have hts := hv.t
 unfold maxLen at hts
 simp only at hts
 have hbw : Bel w w := Bel.refl w
 have HT := hide ht10
 have HV := hide hv
 have RR := hide (show sizeV (TStore.mk x0 x1 x2 x3 x4 x5 x6 x7 x8 x9 x10 x11 x12) ⟨k, n, i, t, lo, hi⟩ = (if ttB ⟨k, n, i, t, lo, hi⟩ = true then (((ttT ⟨k, n, i, t, lo, hi⟩).size : Int), 0) else (0, 114)) by unfold sizeV; rw [if_neg (by simp; omega), if_neg (by simp; omega), if_neg (by simp; omega), if_neg (by simp; omega)])
 have tk3 : (k == 3) = false := by simp; omega
 have tk4 : (k == 4) = false := by simp; omega
 have tk5 : (k == 5) = false := by simp; omega
 have tk6 : (k == 6) = false := by simp; omega
 have tk7 : (k == 7) = false := by simp; omega
 have tk11 : (k == 11) = false := by simp; omega
 clear ht10 hv
 obtain ⟨T0, hT0⟩ : ∃ T0, ttT ⟨k, n, i, t, lo, hi⟩ = T0 := ⟨_, rfl⟩
 have HT0 := hide hT0
 clear hT0
 cases hB : ttB ⟨k, n, i, t, lo, hi⟩
 ·
  have HB := hide hB
  have RR2 := hide (show sizeV (TStore.mk x0 x1 x2 x3 x4 x5 x6 x7 x8 x9 x10 x11 x12) ⟨k, n, i, t, lo, hi⟩ = (0, 114) by rw [RR.out, HB.out]; rfl)
  exact rk78
 ·
  have HB := hide hB
  have RR2 := hide (show sizeV (TStore.mk x0 x1 x2 x3 x4 x5 x6 x7 x8 x9 x10 x11 x12) ⟨k, n, i, t, lo, hi⟩ = ((T0.size : Int), 0) by rw [RR.out, HB.out, HT0.out]; rfl)
  exact rk78
theorem implSz_any (s : TStore) (v : VVal) (hval : validB s = true) (hin : inB s v = true) : SzC 28 s v := by
 obtain ⟨k, n, i, t, lo, hi⟩ := v
 by_cases h3 : k = 3
 ·
  subst h3; exact implSz_3 n i t lo hi s
 by_cases h4 : k = 4
 ·
  subst h4; exact implSz_4 n i t lo hi s hin
 by_cases h5 : k = 5
 ·
  subst h5; exact implSz_5 n i t lo hi s hin
 by_cases h6 : k = 6
 ·
  subst h6; exact implSz_6 n i t lo hi s hin
 by_cases h7 : k = 7
 ·
  subst h7; exact implSz_7 n i t lo hi s hin
 by_cases h11 : k = 11
 ·
  subst h11; exact implSz_11 n i t lo hi s hval hin
 exact implSz_out k ⟨h3, h4, h5, h6, h7, h11⟩ n i t lo hi s
end Go.Proofs.YteihfioaahemkaaGreatDoor
namespace Go.Proofs.YteihfioaahemkaaGreatDoor
set_option linter.unusedVariables false
set_option linter.unusedSimpArgs false
set_option maxRecDepth 100000
open Go.RowKit
--%quiet
def sizeI (s : TStore) (v : VVal) : Int × Int := if inV s v = true then sizeV s v else (0, 205)
set_option maxHeartbeats 8000000 in
theorem specSize_any (s : TStore) (v : VVal) (S : Nat → Prop) (w : World) (vs : List Value) (h10 : P10 w) (hv : Dat.HoldVals w S s.D vs) (hx : v.Ok) : Calls Tryz.prog 7 #[.agg vs.toArray, .agg #[.int .i64 v.k, .int .i64 v.n, .int .i64 v.i, .string v.t, .int .i64 v.lo, .int .i64 v.hi]] w fun e w' => e = .returned (.tuple #[.int .i64 (sizeI s v).1, .int .i64 (sizeI s v).2]) ∧ Bel w w' := by
 obtain ⟨x0, x1, x2, x3, x4, x5, x6, x7, x8, x9, x10, x11, x12⟩ := s
 have HV := hide hv
 obtain ⟨A0, c0, A1, c1, A2, c2, A3, c3, A6, c6, A7, c7, A8, c8, rfl, g0, g1, g2, g3, g4, g5, g6, g7, g8, -, g10, g11, g12⟩ := TStore.vals hv
 have HR0 := hide g0
 have hlc0 := g0.1
 have hcm0 := g0.2.1
 simp only [List.length_map] at hlc0
 unfold maxLen at hcm0
 have HR1 := hide g1
 have hlc1 := g1.1
 have hcm1 := g1.2.1
 simp only [List.length_map] at hlc1
 unfold maxLen at hcm1
 have HR2 := hide g2
 have hlc2 := g2.1
 have hcm2 := g2.2.1
 simp only [List.length_map] at hlc2
 unfold maxLen at hcm2
 have HR3 := hide g3
 have hlc3 := g3.1
 have hcm3 := g3.2.1
 simp only [List.length_map] at hlc3
 unfold maxLen at hcm3
 have HR6 := hide g6
 have hlc6 := g6.1
 have hcm6 := g6.2.1
 simp only [List.length_map] at hlc6
 unfold maxLen at hcm6
 have HR7 := hide g7
 have hlc7 := g7.1
 have hcm7 := g7.2.1
 simp only [List.length_map] at hlc7
 unfold maxLen at hcm7
 have HR8 := hide g8
 have hlc8 := g8.1
 have hcm8 := g8.2.1
 simp only [List.length_map] at hlc8
 unfold maxLen at hcm8
 unfold maxLen at g4
 clear hv g0 g1 g2 g3 g6 g7 g8
 have HS1 := hide (show StoreAt (w.alloc (.cells #[.slice A0 x0.length c0, .slice A1 x1.length c1, .slice A2 x2.length c2, .slice A3 x3.length c3, .string x4, .int .i64 x5, .slice A6 x6.length c6, .slice A7 x7.length c7, .slice A8 x8.length c8, .bool x9, .int .i64 x10, .int .i64 x11, .int .i64 x12] 42)) S w.heap.size (TStore.mk x0 x1 x2 x3 x4 x5 x6 x7 x8 x9 x10 x11 x12) from StoreAt.mk_of HV.out rfl)
 have H10 := hide h10
 clear h10
 have HX := hide hx
 obtain ⟨k0, n0, i0, t0, lo0, hi0⟩ := v
 have hts := hx.t
 unfold maxLen at hts
 clear hx
 simp only at hts ⊢
 cases hb : inV (TStore.mk x0 x1 x2 x3 x4 x5 x6 x7 x8 x9 x10 x11 x12) ⟨k0, n0, i0, t0, lo0, hi0⟩
 ·
  have RR := hide (show sizeI (TStore.mk x0 x1 x2 x3 x4 x5 x6 x7 x8 x9 x10 x11 x12) ⟨k0, n0, i0, t0, lo0, hi0⟩ = (0, 205) by unfold sizeI; rw [hb]; rfl)
  have HB := hide hb
  clear hb
  go_enter Tryz.func7, Tryz.ntmps7
  have mkq := True.intro
  repeat (any_goals ((first | clear mkq | go_quiet (fail)); (try go_wp2_with (first | (go_at_call 19; refine (specValueIn_any (TStore.mk x0 x1 x2 x3 x4 x5 x6 x7 x8 x9 x10 x11 x12) ⟨k0, n0, i0, t0, lo0, hi0⟩ S _ _ (Dat.HoldVals.bel bl HV.out) HX.out).mono ?_; rintro e w1 ⟨rfl, hb1⟩; rw [HB.out]; (have hz1 := hb1.sz; obtain ⟨hk1_0, hf1_0, hl1_0, hn1_0⟩ := hb1.lay (w.heap.size); obtain ⟨hk1_1, hf1_1, hl1_1, hn1_1⟩ := hb1.lay (w.heap.size + 1)))))))
  all_goals
   go_returns
   exact ⟨by rw [RR.out]; first | done | rfl, bl⟩
 ·
  have HB := hide hb
  have HVL := hide (show validB (TStore.mk x0 x1 x2 x3 x4 x5 x6 x7 x8 x9 x10 x11 x12) = true by unfold inV at hb; rw [Bool.and_eq_true] at hb; exact hb.1)
  have HIN := hide (show inB (TStore.mk x0 x1 x2 x3 x4 x5 x6 x7 x8 x9 x10 x11 x12) ⟨k0, n0, i0, t0, lo0, hi0⟩ = true by unfold inV at hb; rw [Bool.and_eq_true] at hb; exact hb.2)
  obtain ⟨r0, rc, hr⟩ : ∃ (r : Int) (c : Int), sizeV (TStore.mk x0 x1 x2 x3 x4 x5 x6 x7 x8 x9 x10 x11 x12) ⟨k0, n0, i0, t0, lo0, hi0⟩ = (r, c) := ⟨_, _, rfl⟩
  have HR := hide hr
  have RR := hide (show sizeI (TStore.mk x0 x1 x2 x3 x4 x5 x6 x7 x8 x9 x10 x11 x12) ⟨k0, n0, i0, t0, lo0, hi0⟩ = (r0, rc) by unfold sizeI; rw [if_pos hb]; exact hr)
  clear hb hr
  go_enter Tryz.func7, Tryz.ntmps7
  have mkq := True.intro
  repeat (any_goals ((first | clear mkq | go_quiet (fail)); (try go_wp2_with (first | (go_at_call 19; refine (specValueIn_any (TStore.mk x0 x1 x2 x3 x4 x5 x6 x7 x8 x9 x10 x11 x12) ⟨k0, n0, i0, t0, lo0, hi0⟩ S _ _ (Dat.HoldVals.bel bl HV.out) HX.out).mono ?_; rintro e w1 ⟨rfl, hb1⟩; rw [HB.out]; (have hz1 := hb1.sz; obtain ⟨hk1_0, hf1_0, hl1_0, hn1_0⟩ := hb1.lay (w.heap.size); obtain ⟨hk1_1, hf1_1, hl1_1, hn1_1⟩ := hb1.lay (w.heap.size + 1))) | (go_at_call 20; refine (specSz_any (TStore.mk x0 x1 x2 x3 x4 x5 x6 x7 x8 x9 x10 x11 x12) ⟨k0, n0, i0, t0, lo0, hi0⟩ HVL.out HIN.out S w.heap.size _ (StoreAt.bel bl HS1.out) HX.out (H10.out.on bl)).mono ?_; rintro e w2 ⟨rfl, hb2⟩; rw [HR.out]; (have hz2 := hb2.sz; obtain ⟨hk2_0, hf2_0, hl2_0, hn2_0⟩ := hb2.lay (w.heap.size); obtain ⟨hk2_1, hf2_1, hl2_1, hn2_1⟩ := hb2.lay (w.heap.size + 1)))))))
  all_goals
   go_returns
   exact ⟨by rw [RR.out]; first | done | rfl, bl⟩
set_option maxHeartbeats 8000000 in
theorem implSize_any (s : TStore) (v : VVal) (S : Nat → Prop) (w : World) (vs : List Value) (htab : Sp w) (h10 : P10 w) (hv : Dat.HoldVals w S s.D vs) (hx : v.Ok) : Calls Tryz.prog 10 #[.agg vs.toArray, .agg #[.int .i64 v.k, .int .i64 v.n, .int .i64 v.i, .string v.t, .int .i64 v.lo, .int .i64 v.hi]] w fun e w' => e = .returned (.tuple #[.int .i64 (sizeI s v).1, .int .i64 (sizeI s v).2]) ∧ Bel w w' := by
 obtain ⟨x0, x1, x2, x3, x4, x5, x6, x7, x8, x9, x10, x11, x12⟩ := s
 have HV := hide hv
 obtain ⟨A0, c0, A1, c1, A2, c2, A3, c3, A6, c6, A7, c7, A8, c8, rfl, g0, g1, g2, g3, g4, g5, g6, g7, g8, -, g10, g11, g12⟩ := TStore.vals hv
 have HR0 := hide g0
 have hlc0 := g0.1
 have hcm0 := g0.2.1
 simp only [List.length_map] at hlc0
 unfold maxLen at hcm0
 have HR1 := hide g1
 have hlc1 := g1.1
 have hcm1 := g1.2.1
 simp only [List.length_map] at hlc1
 unfold maxLen at hcm1
 have HR2 := hide g2
 have hlc2 := g2.1
 have hcm2 := g2.2.1
 simp only [List.length_map] at hlc2
 unfold maxLen at hcm2
 have HR3 := hide g3
 have hlc3 := g3.1
 have hcm3 := g3.2.1
 simp only [List.length_map] at hlc3
 unfold maxLen at hcm3
 have HR6 := hide g6
 have hlc6 := g6.1
 have hcm6 := g6.2.1
 simp only [List.length_map] at hlc6
 unfold maxLen at hcm6
 have HR7 := hide g7
 have hlc7 := g7.1
 have hcm7 := g7.2.1
 simp only [List.length_map] at hlc7
 unfold maxLen at hcm7
 have HR8 := hide g8
 have hlc8 := g8.1
 have hcm8 := g8.2.1
 simp only [List.length_map] at hlc8
 unfold maxLen at hcm8
 unfold maxLen at g4
 clear hv g0 g1 g2 g3 g6 g7 g8
 have HS1 := hide (show StoreAt (w.alloc (.cells #[.slice A0 x0.length c0, .slice A1 x1.length c1, .slice A2 x2.length c2, .slice A3 x3.length c3, .string x4, .int .i64 x5, .slice A6 x6.length c6, .slice A7 x7.length c7, .slice A8 x8.length c8, .bool x9, .int .i64 x10, .int .i64 x11, .int .i64 x12] 42)) S w.heap.size (TStore.mk x0 x1 x2 x3 x4 x5 x6 x7 x8 x9 x10 x11 x12) from StoreAt.mk_of HV.out rfl)
 have HT := hide htab
 clear htab
 have H10 := hide h10
 clear h10
 have HX := hide hx
 obtain ⟨k0, n0, i0, t0, lo0, hi0⟩ := v
 have hts := hx.t
 unfold maxLen at hts
 clear hx
 simp only at hts ⊢
 cases hb : inV (TStore.mk x0 x1 x2 x3 x4 x5 x6 x7 x8 x9 x10 x11 x12) ⟨k0, n0, i0, t0, lo0, hi0⟩
 ·
  have RR := hide (show sizeI (TStore.mk x0 x1 x2 x3 x4 x5 x6 x7 x8 x9 x10 x11 x12) ⟨k0, n0, i0, t0, lo0, hi0⟩ = (0, 205) by unfold sizeI; rw [hb]; rfl)
  have HB := hide hb
  clear hb
  go_enter Tryz.func10, Tryz.ntmps10
  have mkq := True.intro
  repeat (any_goals ((first | clear mkq | go_quiet (fail)); (try go_wp2_with (first | (go_at_call 27; refine (implValueIn_any (TStore.mk x0 x1 x2 x3 x4 x5 x6 x7 x8 x9 x10 x11 x12) ⟨k0, n0, i0, t0, lo0, hi0⟩ S _ _ (HT.out.on bl) (Dat.HoldVals.bel bl HV.out) HX.out).mono ?_; rintro e w1 ⟨rfl, hb1⟩; rw [HB.out]; (have hz1 := hb1.sz; obtain ⟨hk1_0, hf1_0, hl1_0, hn1_0⟩ := hb1.lay (w.heap.size); obtain ⟨hk1_1, hf1_1, hl1_1, hn1_1⟩ := hb1.lay (w.heap.size + 1)))))))
  all_goals
   go_returns
   exact ⟨by rw [RR.out]; first | done | rfl, bl⟩
 ·
  have HB := hide hb
  have HVL := hide (show validB (TStore.mk x0 x1 x2 x3 x4 x5 x6 x7 x8 x9 x10 x11 x12) = true by unfold inV at hb; rw [Bool.and_eq_true] at hb; exact hb.1)
  have HIN := hide (show inB (TStore.mk x0 x1 x2 x3 x4 x5 x6 x7 x8 x9 x10 x11 x12) ⟨k0, n0, i0, t0, lo0, hi0⟩ = true by unfold inV at hb; rw [Bool.and_eq_true] at hb; exact hb.2)
  obtain ⟨r0, rc, hr⟩ : ∃ (r : Int) (c : Int), sizeV (TStore.mk x0 x1 x2 x3 x4 x5 x6 x7 x8 x9 x10 x11 x12) ⟨k0, n0, i0, t0, lo0, hi0⟩ = (r, c) := ⟨_, _, rfl⟩
  have HR := hide hr
  have RR := hide (show sizeI (TStore.mk x0 x1 x2 x3 x4 x5 x6 x7 x8 x9 x10 x11 x12) ⟨k0, n0, i0, t0, lo0, hi0⟩ = (r0, rc) by unfold sizeI; rw [if_pos hb]; exact hr)
  clear hb hr
  go_enter Tryz.func10, Tryz.ntmps10
  have mkq := True.intro
  repeat (any_goals ((first | clear mkq | go_quiet (fail)); (try go_wp2_with (first | (go_at_call 27; refine (implValueIn_any (TStore.mk x0 x1 x2 x3 x4 x5 x6 x7 x8 x9 x10 x11 x12) ⟨k0, n0, i0, t0, lo0, hi0⟩ S _ _ (HT.out.on bl) (Dat.HoldVals.bel bl HV.out) HX.out).mono ?_; rintro e w1 ⟨rfl, hb1⟩; rw [HB.out]; (have hz1 := hb1.sz; obtain ⟨hk1_0, hf1_0, hl1_0, hn1_0⟩ := hb1.lay (w.heap.size); obtain ⟨hk1_1, hf1_1, hl1_1, hn1_1⟩ := hb1.lay (w.heap.size + 1))) | (go_at_call 28; refine (implSz_any (TStore.mk x0 x1 x2 x3 x4 x5 x6 x7 x8 x9 x10 x11 x12) ⟨k0, n0, i0, t0, lo0, hi0⟩ HVL.out HIN.out S w.heap.size _ (StoreAt.bel bl HS1.out) HX.out (H10.out.on bl)).mono ?_; rintro e w2 ⟨rfl, hb2⟩; rw [HR.out]; (have hz2 := hb2.sz; obtain ⟨hk2_0, hf2_0, hl2_0, hn2_0⟩ := hb2.lay (w.heap.size); obtain ⟨hk2_1, hf2_1, hl2_1, hn2_1⟩ := hb2.lay (w.heap.size + 1)))))))
  all_goals
   go_returns
   exact ⟨by rw [RR.out]; first | done | rfl, bl⟩
theorem specSizeOfValue_law (t : TStore) (x : TValue) (w : World) (htab : Tabs w) (S : Nat → Prop) (vs : List Value) (hv : Dat.HoldVals w S t.D vs) (_ : Dat.wtL t.D ≤ 1048576) (S' : Nat → Prop) (vs' : List Value) (hv' : Dat.HoldVals w S' x.D vs') (_ : Dat.wtL x.D ≤ 1048576) :
  Calls Tryz.prog 7 #[.agg vs.toArray, .agg vs'.toArray] w fun e w' => e = .returned (.tuple #[.int .i64 (sizeI t x.v).1, .int .i64 (sizeI t x.v).2]) ∧ Bel w w' := by
 obtain ⟨k, n, i, tt, lo, hi⟩ := x
 obtain ⟨rfl, g0, g1, g2, g3, g4, g5⟩ := TValue.vals hv'
 exact specSize_any t ⟨k, n, i, tt, lo, hi⟩ S w vs htab.2 hv ⟨g0, g1, g2, g3, g4, g5⟩
theorem implSizeOfValue_law (t : TStore) (x : TValue) (w : World) (htab : Tabs w) (S : Nat → Prop) (vs : List Value) (hv : Dat.HoldVals w S t.D vs) (_ : Dat.wtL t.D ≤ 1048576) (S' : Nat → Prop) (vs' : List Value) (hv' : Dat.HoldVals w S' x.D vs') (_ : Dat.wtL x.D ≤ 1048576) :
  Calls Tryz.prog 10 #[.agg vs.toArray, .agg vs'.toArray] w fun e w' => e = .returned (.tuple #[.int .i64 (sizeI t x.v).1, .int .i64 (sizeI t x.v).2]) ∧ Bel w w' := by
 obtain ⟨k, n, i, tt, lo, hi⟩ := x
 obtain ⟨rfl, g0, g1, g2, g3, g4, g5⟩ := TValue.vals hv'
 exact implSize_any t ⟨k, n, i, tt, lo, hi⟩ S w vs htab.1 htab.2 hv ⟨g0, g1, g2, g3, g4, g5⟩
end Go.Proofs.YteihfioaahemkaaGreatDoor
