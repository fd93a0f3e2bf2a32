/- What a value in a store stands for: the exported function, both sides. -/
import Derived.Test.YtebbpcgiacckfaaDoorPr
import Derived.Test.YtebbpcgiacckfaaDoorPR1
import Derived.Test.YtebbpcgiacckfaaDoorPR2
import Derived.Test.YtebbpcgiacckfaaDoorPR3
import Derived.Test.YtebbpcgiacckfaaDoorPR0
namespace Go.Proofs.YtebbpcgiacckfaaDoor
set_option linter.unusedVariables false
set_option linter.unusedSimpArgs false
set_option maxRecDepth 100000
open Go.RowKit
--%quiet
def readI (s : TStore) (v : VVal) : VVal × Int := if inV s v = true ∧ v.k ≤ 18 then rdV s v else (zeroV, 111)
theorem gen_x {P : Program} {c : Code} {Q : Exit → Act → World → Prop} {a : Act} {W2 : World} {t : TypeId} {x0 x1 x2 x3 x4 x5 : Value} (h : ∀ w3, Bel W2 w3 → w3.cell? ⟨W2.heap.size, 0, none⟩ = some x0 → w3.cell? ⟨W2.heap.size, 1, none⟩ = some x1 → w3.cell? ⟨W2.heap.size, 2, none⟩ = some x2 → w3.cell? ⟨W2.heap.size, 3, none⟩ = some x3 → w3.cell? ⟨W2.heap.size, 4, none⟩ = some x4 → w3.cell? ⟨W2.heap.size, 5, none⟩ = some x5 → W2.heap.size < w3.heap.size → Code.wp P c Q a w3) : Code.wp P c Q a (W2.alloc (.cells #[x0, x1, x2, x3, x4, x5] t)) :=
 h _ (Bel.alloc (Bel.refl _) _) (by simp) (by simp) (by simp) (by simp) (by simp) (by simp) (by simp)
set_option maxHeartbeats 8000000 in
theorem specRead_any (s : TStore) (v : VVal) (S : Nat → Prop) (w : World) (vs : List Value) (hv : Dat.HoldVals w S s.D vs) (hx : v.Ok) : Calls Tryd.prog 16 #[.agg vs.toArray, .agg #[.int .i64 v.k, .int .i64 v.n, .int .i64 v.i, .string v.t, .int .i64 v.lo, .int .i64 v.hi]] w fun e w' => e = .returned (.tuple #[(readI s v).1.val, .int .i64 (readI s v).2]) ∧ Bel w w' := by
 obtain ⟨x0, x1, x2, x3, x4, x5, x6, x7, x8, x9, x10, x11, x12⟩ := s
 have HV := hide hv
 obtain ⟨A0, c0, A1, c1, A2, c2, A3, c3, A6, c6, A7, c7, A8, c8, rfl, g0, g1, g2, g3, g4, g5, g6, g7, g8, -, g10, g11, g12⟩ := TStore.vals hv
 have HR0 := hide g0
 have hlc0 := g0.1
 have hcm0 := g0.2.1
 simp only [List.length_map] at hlc0
 unfold maxLen at hcm0
 have HR1 := hide g1
 have hlc1 := g1.1
 have hcm1 := g1.2.1
 simp only [List.length_map] at hlc1
 unfold maxLen at hcm1
 have HR2 := hide g2
 have hlc2 := g2.1
 have hcm2 := g2.2.1
 simp only [List.length_map] at hlc2
 unfold maxLen at hcm2
 have HR3 := hide g3
 have hlc3 := g3.1
 have hcm3 := g3.2.1
 simp only [List.length_map] at hlc3
 unfold maxLen at hcm3
 have HR6 := hide g6
 have hlc6 := g6.1
 have hcm6 := g6.2.1
 simp only [List.length_map] at hlc6
 unfold maxLen at hcm6
 have HR7 := hide g7
 have hlc7 := g7.1
 have hcm7 := g7.2.1
 simp only [List.length_map] at hlc7
 unfold maxLen at hcm7
 have HR8 := hide g8
 have hlc8 := g8.1
 have hcm8 := g8.2.1
 simp only [List.length_map] at hlc8
 unfold maxLen at hcm8
 unfold maxLen at g4
 clear hv g0 g1 g2 g3 g6 g7 g8
 have HS1 := hide (show StoreAt (w.alloc (.cells #[.slice A0 x0.length c0, .slice A1 x1.length c1, .slice A2 x2.length c2, .slice A3 x3.length c3, .string x4, .int .i64 x5, .slice A6 x6.length c6, .slice A7 x7.length c7, .slice A8 x8.length c8, .bool x9, .int .i64 x10, .int .i64 x11, .int .i64 x12] 36)) S w.heap.size (TStore.mk x0 x1 x2 x3 x4 x5 x6 x7 x8 x9 x10 x11 x12) from StoreAt.mk_of HV.out rfl)
 have HX := hide hx
 obtain ⟨k0, n0, i0, t0, lo0, hi0⟩ := v
 have hts := hx.t
 have gx0 := hx.k
 unfold maxLen at hts
 clear hx
 simp only at hts gx0 ⊢
 cases hb : inV (TStore.mk x0 x1 x2 x3 x4 x5 x6 x7 x8 x9 x10 x11 x12) ⟨k0, n0, i0, t0, lo0, hi0⟩
 ·
  have RR := hide (show readI (TStore.mk x0 x1 x2 x3 x4 x5 x6 x7 x8 x9 x10 x11 x12) ⟨k0, n0, i0, t0, lo0, hi0⟩ = (zeroV, 111) by unfold readI; rw [hb]; rfl)
  have HB := hide hb
  clear hb
  exact rk42
 ·
  have HB := hide hb
  have hval : validB (TStore.mk x0 x1 x2 x3 x4 x5 x6 x7 x8 x9 x10 x11 x12) = true := by unfold inV at hb; rw [Bool.and_eq_true] at hb; exact hb.1
  have hin : inB (TStore.mk x0 x1 x2 x3 x4 x5 x6 x7 x8 x9 x10 x11 x12) ⟨k0, n0, i0, t0, lo0, hi0⟩ = true := by unfold inV at hb; rw [Bool.and_eq_true] at hb; exact hb.2
  have HVL := hide hval
  have HIN := hide hin
  clear hval hin
  by_cases hk : k0 ≤ 18
  ·
   have dk : decide (18 < k0) = false := by simp; omega
   obtain ⟨⟨r0, r1, r2, r3, r4, r5⟩, rc, hr⟩ : ∃ (r : VVal) (c : Int), rdV (TStore.mk x0 x1 x2 x3 x4 x5 x6 x7 x8 x9 x10 x11 x12) ⟨k0, n0, i0, t0, lo0, hi0⟩ = (r, c) := ⟨_, _, rfl⟩
   have HR := hide hr
   have RR := hide (show readI (TStore.mk x0 x1 x2 x3 x4 x5 x6 x7 x8 x9 x10 x11 x12) ⟨k0, n0, i0, t0, lo0, hi0⟩ = (⟨r0, r1, r2, r3, r4, r5⟩, rc) by unfold readI; rw [if_pos ⟨hb, hk⟩]; exact hr)
   have HK := hide hk
   clear hb hr
   go_enter Tryd.func16, Tryd.ntmps16
   have mkq := True.intro
   repeat (any_goals ((first | clear mkq | go_quiet (fail)); (try go_wp2_with (first | (go_at_call 13; refine (specValueIn_any (TStore.mk x0 x1 x2 x3 x4 x5 x6 x7 x8 x9 x10 x11 x12) ⟨k0, n0, i0, t0, lo0, hi0⟩ S _ _ (Dat.HoldVals.bel bl HV.out) HX.out).mono ?_; rintro e w1 ⟨rfl, hb1⟩; rw [HB.out]; (have hz1 := hb1.sz; obtain ⟨hk1_0, hf1_0, hl1_0, hn1_0⟩ := hb1.lay (w.heap.size); obtain ⟨hk1_1, hf1_1, hl1_1, hn1_1⟩ := hb1.lay (w.heap.size + 1); obtain ⟨hk1_2, hf1_2, hl1_2, hn1_2⟩ := hb1.lay (w.heap.size + 1 + 1)); have Z1 := Z6.on Z6.new hb1; (try simp only [World.size_alloc] at Z1)) | (go_at_call 53; refine (specRd_any (TStore.mk x0 x1 x2 x3 x4 x5 x6 x7 x8 x9 x10 x11 x12) ⟨k0, n0, i0, t0, lo0, hi0⟩ HVL.out HIN.out HK.out S w.heap.size _ (StoreAt.bel bl HS1.out) HX.out).mono ?_; rintro e w2 ⟨rfl, hb2⟩; rw [HR.out]; simp only [VVal.val]; (have hz2 := hb2.sz; obtain ⟨hk2_0, hf2_0, hl2_0, hn2_0⟩ := hb2.lay (w.heap.size); obtain ⟨hk2_1, hf2_1, hl2_1, hn2_1⟩ := hb2.lay (w.heap.size + 1); obtain ⟨hk2_2, hf2_2, hl2_2, hn2_2⟩ := hb2.lay (w.heap.size + 1 + 1)); have Z2 := Z6.on Z1 hb2)))))
   all_goals
    refine gen_ret6 (Z6.on Z2 bl) fun wz d0 d1 d2 d3 d4 d5 hbz => ?_
    refine bodyPost_ret (v := .tuple #[.agg #[.int .i64 r0, .int .i64 r1, .int .i64 r2, .string r3, .int .i64 r4, .int .i64 r5], .int .i64 rc]) (by simp [results, Tryd.results16, go_sem, d0, d1, d2, d3, d4, d5] <;> rfl) rfl ⟨?_, hbz _ bl (by omega)⟩
    rw [RR.out]; first | done | rfl
  ·
   have dk : decide (18 < k0) = true := by simp; omega
   have RR := hide (show readI (TStore.mk x0 x1 x2 x3 x4 x5 x6 x7 x8 x9 x10 x11 x12) ⟨k0, n0, i0, t0, lo0, hi0⟩ = (zeroV, 111) by unfold readI; rw [if_neg (fun h => hk h.2)])
   clear hb hk
   exact rk42
set_option maxHeartbeats 8000000 in
theorem implRead_any (s : TStore) (v : VVal) (S : Nat → Prop) (w : World) (vs : List Value) (htab : Sp w) (hv : Dat.HoldVals w S s.D vs) (hx : v.Ok) : Calls Tryd.prog 17 #[.agg vs.toArray, .agg #[.int .i64 v.k, .int .i64 v.n, .int .i64 v.i, .string v.t, .int .i64 v.lo, .int .i64 v.hi]] w fun e w' => e = .returned (.tuple #[(readI s v).1.val, .int .i64 (readI s v).2]) ∧ Bel w w' := by
 obtain ⟨x0, x1, x2, x3, x4, x5, x6, x7, x8, x9, x10, x11, x12⟩ := s
 have HV := hide hv
 obtain ⟨A0, c0, A1, c1, A2, c2, A3, c3, A6, c6, A7, c7, A8, c8, rfl, g0, g1, g2, g3, g4, g5, g6, g7, g8, -, g10, g11, g12⟩ := TStore.vals hv
 have HR0 := hide g0
 have hlc0 := g0.1
 have hcm0 := g0.2.1
 simp only [List.length_map] at hlc0
 unfold maxLen at hcm0
 have HR1 := hide g1
 have hlc1 := g1.1
 have hcm1 := g1.2.1
 simp only [List.length_map] at hlc1
 unfold maxLen at hcm1
 have HR2 := hide g2
 have hlc2 := g2.1
 have hcm2 := g2.2.1
 simp only [List.length_map] at hlc2
 unfold maxLen at hcm2
 have HR3 := hide g3
 have hlc3 := g3.1
 have hcm3 := g3.2.1
 simp only [List.length_map] at hlc3
 unfold maxLen at hcm3
 have HR6 := hide g6
 have hlc6 := g6.1
 have hcm6 := g6.2.1
 simp only [List.length_map] at hlc6
 unfold maxLen at hcm6
 have HR7 := hide g7
 have hlc7 := g7.1
 have hcm7 := g7.2.1
 simp only [List.length_map] at hlc7
 unfold maxLen at hcm7
 have HR8 := hide g8
 have hlc8 := g8.1
 have hcm8 := g8.2.1
 simp only [List.length_map] at hlc8
 unfold maxLen at hcm8
 unfold maxLen at g4
 clear hv g0 g1 g2 g3 g6 g7 g8
 have HS1 := hide (show StoreAt (w.alloc (.cells #[.slice A0 x0.length c0, .slice A1 x1.length c1, .slice A2 x2.length c2, .slice A3 x3.length c3, .string x4, .int .i64 x5, .slice A6 x6.length c6, .slice A7 x7.length c7, .slice A8 x8.length c8, .bool x9, .int .i64 x10, .int .i64 x11, .int .i64 x12] 36)) S w.heap.size (TStore.mk x0 x1 x2 x3 x4 x5 x6 x7 x8 x9 x10 x11 x12) from StoreAt.mk_of HV.out rfl)
 have HT := hide htab
 clear htab
 have HX := hide hx
 obtain ⟨k0, n0, i0, t0, lo0, hi0⟩ := v
 have hts := hx.t
 have gx0 := hx.k
 unfold maxLen at hts
 clear hx
 simp only at hts gx0 ⊢
 cases hb : inV (TStore.mk x0 x1 x2 x3 x4 x5 x6 x7 x8 x9 x10 x11 x12) ⟨k0, n0, i0, t0, lo0, hi0⟩
 ·
  have RR := hide (show readI (TStore.mk x0 x1 x2 x3 x4 x5 x6 x7 x8 x9 x10 x11 x12) ⟨k0, n0, i0, t0, lo0, hi0⟩ = (zeroV, 111) by unfold readI; rw [hb]; rfl)
  have HB := hide hb
  clear hb
  go_enter Tryd.func17, Tryd.ntmps17
  have mkq := True.intro
  repeat (any_goals ((first | clear mkq | go_quiet (fail)); (try go_wp2_with (first | (go_at_call 15; refine (implValueIn_any (TStore.mk x0 x1 x2 x3 x4 x5 x6 x7 x8 x9 x10 x11 x12) ⟨k0, n0, i0, t0, lo0, hi0⟩ S _ _ (HT.out.on bl) (Dat.HoldVals.bel bl HV.out) HX.out).mono ?_; rintro e w1 ⟨rfl, hb1⟩; rw [HB.out]; (have hz1 := hb1.sz; obtain ⟨hk1_0, hf1_0, hl1_0, hn1_0⟩ := hb1.lay (w.heap.size); obtain ⟨hk1_1, hf1_1, hl1_1, hn1_1⟩ := hb1.lay (w.heap.size + 1); obtain ⟨hk1_2, hf1_2, hl1_2, hn1_2⟩ := hb1.lay (w.heap.size + 1 + 1)); have Z1 := Z6.on Z6.new hb1; (try simp only [World.size_alloc] at Z1))))))
  all_goals
   refine gen_ret6 (Z6.on Z1 bl) fun wz d0 d1 d2 d3 d4 d5 hbz => ?_
   refine bodyPost_ret (v := .tuple #[.agg #[.int .i64 0, .int .i64 0, .int .i64 0, .string ByteArray.empty, .int .i64 0, .int .i64 0], .int .i64 111]) (by simp [results, Tryd.results17, go_sem, d0, d1, d2, d3, d4, d5] <;> rfl) rfl ⟨?_, hbz _ bl (by omega)⟩
   rw [RR.out]; first | done | rfl
 ·
  have HB := hide hb
  have hval : validB (TStore.mk x0 x1 x2 x3 x4 x5 x6 x7 x8 x9 x10 x11 x12) = true := by unfold inV at hb; rw [Bool.and_eq_true] at hb; exact hb.1
  have hin : inB (TStore.mk x0 x1 x2 x3 x4 x5 x6 x7 x8 x9 x10 x11 x12) ⟨k0, n0, i0, t0, lo0, hi0⟩ = true := by unfold inV at hb; rw [Bool.and_eq_true] at hb; exact hb.2
  have HVL := hide hval
  have HIN := hide hin
  clear hval hin
  by_cases hk : k0 ≤ 18
  ·
   have dk : decide (18 < k0) = false := by simp; omega
   obtain ⟨⟨r0, r1, r2, r3, r4, r5⟩, rc, hr⟩ : ∃ (r : VVal) (c : Int), rdV (TStore.mk x0 x1 x2 x3 x4 x5 x6 x7 x8 x9 x10 x11 x12) ⟨k0, n0, i0, t0, lo0, hi0⟩ = (r, c) := ⟨_, _, rfl⟩
   have HR := hide hr
   have RR := hide (show readI (TStore.mk x0 x1 x2 x3 x4 x5 x6 x7 x8 x9 x10 x11 x12) ⟨k0, n0, i0, t0, lo0, hi0⟩ = (⟨r0, r1, r2, r3, r4, r5⟩, rc) by unfold readI; rw [if_pos ⟨hb, hk⟩]; exact hr)
   have HK := hide hk
   clear hb hr
   go_enter Tryd.func17, Tryd.ntmps17
   go_upto_region 4 with (first | (go_at_call 15; refine (implValueIn_any (TStore.mk x0 x1 x2 x3 x4 x5 x6 x7 x8 x9 x10 x11 x12) ⟨k0, n0, i0, t0, lo0, hi0⟩ S _ _ (HT.out.on bl) (Dat.HoldVals.bel bl HV.out) HX.out).mono ?_; rintro e w1 ⟨rfl, hb1⟩; rw [HB.out]; (have hz1 := hb1.sz; obtain ⟨hk1_0, hf1_0, hl1_0, hn1_0⟩ := hb1.lay (w.heap.size); obtain ⟨hk1_1, hf1_1, hl1_1, hn1_1⟩ := hb1.lay (w.heap.size + 1); obtain ⟨hk1_2, hf1_2, hl1_2, hn1_2⟩ := hb1.lay (w.heap.size + 1 + 1)); have Z1 := Z6.on Z6.new hb1; (try simp only [World.size_alloc] at Z1)) | (go_at_call 54; refine (implRd_any (TStore.mk x0 x1 x2 x3 x4 x5 x6 x7 x8 x9 x10 x11 x12) ⟨k0, n0, i0, t0, lo0, hi0⟩ HVL.out HIN.out HK.out S w.heap.size _ (StoreAt.bel bl HS1.out) HX.out).mono ?_; rintro e w2 ⟨rfl, hb2⟩; rw [HR.out]; simp only [VVal.val]; (have hz2 := hb2.sz; obtain ⟨hk2_0, hf2_0, hl2_0, hn2_0⟩ := hb2.lay (w.heap.size); obtain ⟨hk2_1, hf2_1, hl2_1, hn2_1⟩ := hb2.lay (w.heap.size + 1); obtain ⟨hk2_2, hf2_2, hl2_2, hn2_2⟩ := hb2.lay (w.heap.size + 1 + 1)); have Z2 := Z6.on Z1 hb2))
   refine gen_x fun w3 h23 y0 y1 y2 y3 y4 y5 ly => ?_
   have Z3 := Z6.on Z2 h23
   have YZ := Z3
   obtain ⟨cc0, cc1, cc2, cc3, cc4, cc5, cf, cl⟩ := YZ
   have hbf : Bel w w3 := bl
   have nyr : ¬ w.heap.size + 1 + 1 = w2.heap.size := by omega
   clear h23
   go_wp2_with (fail)
   repeat (any_goals (go_quiet (fail); (try go_wp2_with (fail))))
   all_goals
    refine gen_ret6 (Z6.on Z3 bl) fun wz d0 d1 d2 d3 d4 d5 hbz => ?_
    refine bodyPost_ret (v := .tuple #[.agg #[.int .i64 r0, .int .i64 r1, .int .i64 r2, .string r3, .int .i64 r4, .int .i64 r5], .int .i64 rc]) (by simp [results, Tryd.results17, go_sem, d0, d1, d2, d3, d4, d5] <;> rfl) rfl ⟨?_, hbz _ bl (by omega)⟩
    rw [RR.out]; first | done | rfl
  ·
   have dk : decide (18 < k0) = true := by simp; omega
   have RR := hide (show readI (TStore.mk x0 x1 x2 x3 x4 x5 x6 x7 x8 x9 x10 x11 x12) ⟨k0, n0, i0, t0, lo0, hi0⟩ = (zeroV, 111) by unfold readI; rw [if_neg (fun h => hk h.2)])
   have hk2 : k0 = 19 ∨ k0 = 20 := by
    have hw := inB_well HIN.out
    rcases well_cases k0 with h | h | h | h | h | h | h | h | h | h | h | h | h | h | h | h | h | h | h | h | h | h | h <;> first | omega | (exfalso; unfold wellB at hw; (repeat rw [if_neg (by simp only; omega)] at hw); cases hw)
   clear hb hk
   rcases hk2 with rfl | rfl
   ·
    clear dk gx0
    go_enter Tryd.func17, Tryd.ntmps17
    go_upto_region 4 with (first | (go_at_call 15; refine (implValueIn_any (TStore.mk x0 x1 x2 x3 x4 x5 x6 x7 x8 x9 x10 x11 x12) ⟨19, n0, i0, t0, lo0, hi0⟩ S _ _ (HT.out.on bl) (Dat.HoldVals.bel bl HV.out) HX.out).mono ?_; rintro e w1 ⟨rfl, hb1⟩; rw [HB.out]; (have hz1 := hb1.sz; obtain ⟨hk1_0, hf1_0, hl1_0, hn1_0⟩ := hb1.lay (w.heap.size); obtain ⟨hk1_1, hf1_1, hl1_1, hn1_1⟩ := hb1.lay (w.heap.size + 1); obtain ⟨hk1_2, hf1_2, hl1_2, hn1_2⟩ := hb1.lay (w.heap.size + 1 + 1)); have Z1 := Z6.on Z6.new hb1; (try simp only [World.size_alloc] at Z1)) | (go_at_call 54; refine (implRd_19 _ _ _ _ _ (TStore.mk x0 x1 x2 x3 x4 x5 x6 x7 x8 x9 x10 x11 x12) S w.heap.size _ (StoreAt.bel bl HS1.out)).mono ?_; rintro e w2 ⟨rfl, hb2⟩; simp only [VVal.val, zeroV]; (have hz2 := hb2.sz; obtain ⟨hk2_0, hf2_0, hl2_0, hn2_0⟩ := hb2.lay (w.heap.size); obtain ⟨hk2_1, hf2_1, hl2_1, hn2_1⟩ := hb2.lay (w.heap.size + 1); obtain ⟨hk2_2, hf2_2, hl2_2, hn2_2⟩ := hb2.lay (w.heap.size + 1 + 1)); have Z2 := Z6.on Z1 hb2))
    refine gen_x fun w3 h23 y0 y1 y2 y3 y4 y5 ly => ?_
    have Z3 := Z6.on Z2 h23
    have YZ := Z3
    obtain ⟨cc0, cc1, cc2, cc3, cc4, cc5, cf, cl⟩ := YZ
    have hbf : Bel w w3 := bl
    have nyr : ¬ w.heap.size + 1 + 1 = w2.heap.size := by omega
    clear h23
    go_wp2_with (fail)
    repeat (any_goals (go_quiet (fail); (try go_wp2_with (fail))))
    all_goals
     refine gen_ret6 (Z6.on Z3 bl) fun wz d0 d1 d2 d3 d4 d5 hbz => ?_
     refine bodyPost_ret (v := .tuple #[.agg #[.int .i64 0, .int .i64 0, .int .i64 0, .string ByteArray.empty, .int .i64 0, .int .i64 0], .int .i64 111]) (by simp [results, Tryd.results17, go_sem, d0, d1, d2, d3, d4, d5] <;> rfl) rfl ⟨?_, hbz _ bl (by omega)⟩
     rw [RR.out]; first | done | rfl
   ·
    clear dk gx0
    go_enter Tryd.func17, Tryd.ntmps17
    go_upto_region 4 with (first | (go_at_call 15; refine (implValueIn_any (TStore.mk x0 x1 x2 x3 x4 x5 x6 x7 x8 x9 x10 x11 x12) ⟨20, n0, i0, t0, lo0, hi0⟩ S _ _ (HT.out.on bl) (Dat.HoldVals.bel bl HV.out) HX.out).mono ?_; rintro e w1 ⟨rfl, hb1⟩; rw [HB.out]; (have hz1 := hb1.sz; obtain ⟨hk1_0, hf1_0, hl1_0, hn1_0⟩ := hb1.lay (w.heap.size); obtain ⟨hk1_1, hf1_1, hl1_1, hn1_1⟩ := hb1.lay (w.heap.size + 1); obtain ⟨hk1_2, hf1_2, hl1_2, hn1_2⟩ := hb1.lay (w.heap.size + 1 + 1)); have Z1 := Z6.on Z6.new hb1; (try simp only [World.size_alloc] at Z1)) | (go_at_call 54; refine (implRd_20 _ _ _ _ _ (TStore.mk x0 x1 x2 x3 x4 x5 x6 x7 x8 x9 x10 x11 x12) S w.heap.size _ (StoreAt.bel bl HS1.out)).mono ?_; rintro e w2 ⟨rfl, hb2⟩; simp only [VVal.val, zeroV]; (have hz2 := hb2.sz; obtain ⟨hk2_0, hf2_0, hl2_0, hn2_0⟩ := hb2.lay (w.heap.size); obtain ⟨hk2_1, hf2_1, hl2_1, hn2_1⟩ := hb2.lay (w.heap.size + 1); obtain ⟨hk2_2, hf2_2, hl2_2, hn2_2⟩ := hb2.lay (w.heap.size + 1 + 1)); have Z2 := Z6.on Z1 hb2))
    refine gen_x fun w3 h23 y0 y1 y2 y3 y4 y5 ly => ?_
    have Z3 := Z6.on Z2 h23
    have YZ := Z3
    obtain ⟨cc0, cc1, cc2, cc3, cc4, cc5, cf, cl⟩ := YZ
    have hbf : Bel w w3 := bl
    have nyr : ¬ w.heap.size + 1 + 1 = w2.heap.size := by omega
    clear h23
    go_wp2_with (fail)
    repeat (any_goals (go_quiet (fail); (try go_wp2_with (fail))))
    all_goals
     refine gen_ret6 (Z6.on Z3 bl) fun wz d0 d1 d2 d3 d4 d5 hbz => ?_
     refine bodyPost_ret (v := .tuple #[.agg #[.int .i64 0, .int .i64 0, .int .i64 0, .string ByteArray.empty, .int .i64 0, .int .i64 0], .int .i64 111]) (by simp [results, Tryd.results17, go_sem, d0, d1, d2, d3, d4, d5] <;> rfl) rfl ⟨?_, hbz _ bl (by omega)⟩
     rw [RR.out]; first | done | rfl
end Go.Proofs.YtebbpcgiacckfaaDoor
namespace Go.Proofs.YtebbpcgiacckfaaDoor
set_option linter.unusedVariables false
set_option linter.unusedSimpArgs false
set_option maxRecDepth 100000
open Go.RowKit
theorem specReadVariable_law (t : TStore) (x : TValue) (w : World) (_ : Sp w) (S : Nat → Prop) (vs : List Value) (hv : Dat.HoldVals w S t.D vs) (_ : Dat.wtL t.D ≤ 1048576) (S' : Nat → Prop) (vs' : List Value) (hv' : Dat.HoldVals w S' x.D vs') (_ : Dat.wtL x.D ≤ 1048576) :
  Calls Tryd.prog 16 #[.agg vs.toArray, .agg vs'.toArray] w fun e w' => e = .returned (.tuple #[(readI t x.v).1.val, .int .i64 (readI t x.v).2]) ∧ Bel w w' := by
 obtain ⟨k, n, i, tt, lo, hi⟩ := x
 obtain ⟨rfl, g0, g1, g2, g3, g4, g5⟩ := TValue.vals hv'
 exact specRead_any t ⟨k, n, i, tt, lo, hi⟩ S w vs hv ⟨g0, g1, g2, g3, g4, g5⟩
theorem implReadVariable_law (t : TStore) (x : TValue) (w : World) (htab : Sp w) (S : Nat → Prop) (vs : List Value) (hv : Dat.HoldVals w S t.D vs) (_ : Dat.wtL t.D ≤ 1048576) (S' : Nat → Prop) (vs' : List Value) (hv' : Dat.HoldVals w S' x.D vs') (_ : Dat.wtL x.D ≤ 1048576) :
  Calls Tryd.prog 17 #[.agg vs.toArray, .agg vs'.toArray] w fun e w' => e = .returned (.tuple #[(readI t x.v).1.val, .int .i64 (readI t x.v).2]) ∧ Bel w w' := by
 obtain ⟨k, n, i, tt, lo, hi⟩ := x
 obtain ⟨rfl, g0, g1, g2, g3, g4, g5⟩ := TValue.vals hv'
 exact implRead_any t ⟨k, n, i, tt, lo, hi⟩ S w vs htab hv ⟨g0, g1, g2, g3, g4, g5⟩
theorem eqVal_same (u0 u1 u2 : Int) (u3 : ByteArray) (u4 u5 : Int) (w : World) :
  Calls Tryd.prog 18 #[.agg #[.int .i64 u0, .int .i64 u1, .int .i64 u2, .string u3, .int .i64 u4, .int .i64 u5], .agg #[.int .i64 u0, .int .i64 u1, .int .i64 u2, .string u3, .int .i64 u4, .int .i64 u5]] w fun e w' => e = .returned (.bool true) ∧ Bel w w' := by
 have := eqValue_any ⟨u0, u1, u2, u3, u4, u5⟩ ⟨u0, u1, u2, u3, u4, u5⟩ w
 rw [VVal.eqB_self] at this
 exact this
def SixV (w : World) (b : Nat) (x0 x1 x2 x3 x4 x5 : Value) : Prop := w.cell? ⟨b, 0, none⟩ = some x0 ∧ w.cell? ⟨b, 1, none⟩ = some x1 ∧ w.cell? ⟨b, 2, none⟩ = some x2 ∧ w.cell? ⟨b, 3, none⟩ = some x3 ∧ w.cell? ⟨b, 4, none⟩ = some x4 ∧ w.cell? ⟨b, 5, none⟩ = some x5
theorem SixV.new {w w2 : World} {t : TypeId} {x0 x1 x2 x3 x4 x5 : Value} (h : Bel (w.alloc (.cells #[x0, x1, x2, x3, x4, x5] t)) w2) : SixV w2 w.heap.size x0 x1 x2 x3 x4 x5 := by
 have h0 := h.box w.heap.size (by simp)
 refine ⟨?_, ?_, ?_, ?_, ?_, ?_⟩ <;> (rw [h0]; simp)
end Go.Proofs.YtebbpcgiacckfaaDoor
