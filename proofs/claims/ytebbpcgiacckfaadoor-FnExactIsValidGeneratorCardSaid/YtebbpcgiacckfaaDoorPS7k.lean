/- Objects: the program. -/
import Derived.Test.YtebbpcgiacckfaaDoorPr
import Derived.Test.YtebbpcgiacckfaaDoorPS5bz
namespace Go.Proofs.YtebbpcgiacckfaaDoor
set_option linter.unusedVariables false
set_option linter.unusedSimpArgs false
set_option maxRecDepth 100000
open Go.RowKit
--%quiet
set_option maxHeartbeats 8000000 in
theorem implObj_3_b (tag ser : Int) (its keys : List TValue) (s : TStore) (h_tag : ¬ tag = 0) (h_key40 : keys.length ≤ 40) : ObjC 44 s (.mk 3 tag ser its keys) := by
 intro S S' q w vs hs hv
 have HS := hide hs
 obtain ⟨Ai, ci, Ak, ck, rfl, _, htag, hser, hRi, hRk⟩ := TObject.vals hv
 have HRi := hide hRi
 have HRk := hide hRk
 have hli := hRi.1
 have hmi := hRi.2.1
 have hlk := hRk.1
 have hmk := hRk.2.1
 simp only [List.length_map] at hli hlk
 unfold maxLen at hmi hmk
 clear hRi hRk hv
 obtain ⟨x0, x1, x2, x3, x4, x5, x6, x7, x8, x9, x10, x11, x12⟩ := s
 have HSt := hide hs
 obtain ⟨A0, c0, A1, c1, A2, c2, A3, c3, A6, c6, A7, c7, A8, c8, hq, e0, e1, e2, e3, e4, e5, e6, e7, e8, e9, e10, e11, e12, g0, g1, g2, g3, g4, g5, g6, g7, g8, g10, g11, g12⟩ := StoreAt.cells hs
 have hlc0 := g0.1
 have hcm0 := g0.2.1
 simp only [List.length_map] at hlc0
 unfold maxLen at hcm0
 have HR1 := hide g1
 have hlc1 := HR1.out.1
 have hcm1 := HR1.out.2.1
 simp only [List.length_map] at hlc1
 unfold maxLen at hcm1
 have hlc2 := g2.1
 have hcm2 := g2.2.1
 simp only [List.length_map] at hlc2
 unfold maxLen at hcm2
 have hlc3 := g3.1
 have hcm3 := g3.2.1
 simp only [List.length_map] at hlc3
 unfold maxLen at hcm3
 have hlc6 := g6.1
 have hcm6 := g6.2.1
 simp only [List.length_map] at hlc6
 unfold maxLen at hcm6
 have hlc7 := g7.1
 have hcm7 := g7.2.1
 simp only [List.length_map] at hlc7
 unfold maxLen at hcm7
 have hlc8 := g8.1
 have hcm8 := g8.2.1
 simp only [List.length_map] at hlc8
 unfold maxLen at hcm8
 unfold maxLen at g4
 clear hs g0 g1 g2 g3 g6 g7 g8
 have hqn : ¬ q = w.heap.size := by omega
 have hbw : Bel w w := Bel.refl w
 by_cases hs1 : ser < 1
 case pos =>
  have RR := hide (show objB (TStore.mk x0 x1 x2 x3 x4 x5 x6 x7 x8 x9 x10 x11 x12) (.mk 3 tag ser its keys) = false by rw [objB_3]; show (decide (1 ≤ ser ∧ ser ≤ x12) && _) = false; rw [decide_eq_false (show ¬ (1 ≤ ser ∧ ser ≤ x12) by omega)]; rfl)
  have ds1 : decide (ser < 1) = true := by simp; omega
  exact rk3
 case neg =>
 have ds1 : decide (ser < 1) = false := by simp; omega
 by_cases hs2 : x12 < ser
 case pos =>
  have RR := hide (show objB (TStore.mk x0 x1 x2 x3 x4 x5 x6 x7 x8 x9 x10 x11 x12) (.mk 3 tag ser its keys) = false by rw [objB_3]; show (decide (1 ≤ ser ∧ ser ≤ x12) && _) = false; rw [decide_eq_false (show ¬ (1 ≤ ser ∧ ser ≤ x12) by omega)]; rfl)
  have ds2 : decide (x12 < ser) = true := by simp; omega
  exact rk3
 case neg =>
 have ds2 : decide (x12 < ser) = false := by simp; omega
 cases h_dis : distB keys
 case false =>
  by_cases h_itk : its.length = keys.length + 1
  case neg =>
   have RR := hide (show objB (TStore.mk x0 x1 x2 x3 x4 x5 x6 x7 x8 x9 x10 x11 x12) (.mk 3 tag ser its keys) = false by rw [objB_3]; (try simp only [TStore.made_mk, TStore.records_mk, vAt_0, vAt_1, vAt_2]); simp [h_tag])
   have e_tag : (tag == 0) = false := by rw [beq_eq_false_iff_ne]; omega
   have n_tag : (tag != 0) = true := by rw [bne_iff_ne]; omega
   have l_key40 : decide ((keys.length : Int) ≤ 40) = true := decide_eq_true (by omega)
   have g_key40 : decide (40 < (keys.length : Int)) = false := decide_eq_false (by omega)
   have e_itk : ((its.length : Int) == (keys.length : Int) + 1) = false := by rw [beq_eq_false_iff_ne]; omega
   have e_itk2 : ((its.length : Int) == 1 + (keys.length : Int)) = false := by rw [beq_eq_false_iff_ne]; omega
   have e_itk3 : ((its.length : Int) == wrap64 (1 + (keys.length : Int))) = false := by rw [itk_eq (by omega) (by omega)]; exact decide_eq_false h_itk
   have H_dis := hide h_dis
   clear h_tag h_key40 h_dis h_itk
   exact rk20
  case pos =>
  cases h_alli : allB (TStore.mk x0 x1 x2 x3 x4 x5 x6 x7 x8 x9 x10 x11 x12) its
  case false =>
   have RR := hide (show objB (TStore.mk x0 x1 x2 x3 x4 x5 x6 x7 x8 x9 x10 x11 x12) (.mk 3 tag ser its keys) = false by rw [objB_3]; (try simp only [TStore.made_mk, TStore.records_mk, vAt_0, vAt_1, vAt_2]); simp [h_tag])
   have e_tag : (tag == 0) = false := by rw [beq_eq_false_iff_ne]; omega
   have n_tag : (tag != 0) = true := by rw [bne_iff_ne]; omega
   exact rk13
  case true =>
  have RR := hide (show objB (TStore.mk x0 x1 x2 x3 x4 x5 x6 x7 x8 x9 x10 x11 x12) (.mk 3 tag ser its keys) = false by rw [objB_3]; (try simp only [TStore.made_mk, TStore.records_mk, vAt_0, vAt_1, vAt_2]); simp [h_tag])
  have e_tag : (tag == 0) = false := by rw [beq_eq_false_iff_ne]; omega
  have n_tag : (tag != 0) = true := by rw [bne_iff_ne]; omega
  exact rk13
 case true =>
 cases h_allk : allB (TStore.mk x0 x1 x2 x3 x4 x5 x6 x7 x8 x9 x10 x11 x12) keys
 case false =>
  by_cases h_itk : its.length = keys.length + 1
  case neg =>
   have RR := hide (show objB (TStore.mk x0 x1 x2 x3 x4 x5 x6 x7 x8 x9 x10 x11 x12) (.mk 3 tag ser its keys) = false by rw [objB_3]; (try simp only [TStore.made_mk, TStore.records_mk, vAt_0, vAt_1, vAt_2]); simp [h_tag])
   have e_tag : (tag == 0) = false := by rw [beq_eq_false_iff_ne]; omega
   have n_tag : (tag != 0) = true := by rw [bne_iff_ne]; omega
   have l_key40 : decide ((keys.length : Int) ≤ 40) = true := decide_eq_true (by omega)
   have g_key40 : decide (40 < (keys.length : Int)) = false := decide_eq_false (by omega)
   have e_itk : ((its.length : Int) == (keys.length : Int) + 1) = false := by rw [beq_eq_false_iff_ne]; omega
   have e_itk2 : ((its.length : Int) == 1 + (keys.length : Int)) = false := by rw [beq_eq_false_iff_ne]; omega
   have e_itk3 : ((its.length : Int) == wrap64 (1 + (keys.length : Int))) = false := by rw [itk_eq (by omega) (by omega)]; exact decide_eq_false h_itk
   have H_dis := hide h_dis
   have H_allk := hide h_allk
   clear h_tag h_key40 h_dis h_allk h_itk
   exact rk7
  case pos =>
  cases h_alli : allB (TStore.mk x0 x1 x2 x3 x4 x5 x6 x7 x8 x9 x10 x11 x12) its
  case false =>
   have RR := hide (show objB (TStore.mk x0 x1 x2 x3 x4 x5 x6 x7 x8 x9 x10 x11 x12) (.mk 3 tag ser its keys) = false by rw [objB_3]; (try simp only [TStore.made_mk, TStore.records_mk, vAt_0, vAt_1, vAt_2]); simp [h_tag])
   have e_tag : (tag == 0) = false := by rw [beq_eq_false_iff_ne]; omega
   have n_tag : (tag != 0) = true := by rw [bne_iff_ne]; omega
   exact rk4
  case true =>
  have RR := hide (show objB (TStore.mk x0 x1 x2 x3 x4 x5 x6 x7 x8 x9 x10 x11 x12) (.mk 3 tag ser its keys) = false by rw [objB_3]; (try simp only [TStore.made_mk, TStore.records_mk, vAt_0, vAt_1, vAt_2]); simp [h_tag])
  have e_tag : (tag == 0) = false := by rw [beq_eq_false_iff_ne]; omega
  have n_tag : (tag != 0) = true := by rw [bne_iff_ne]; omega
  exact rk4
 case true =>
 by_cases h_itk : its.length = keys.length + 1
 case neg =>
  have RR := hide (show objB (TStore.mk x0 x1 x2 x3 x4 x5 x6 x7 x8 x9 x10 x11 x12) (.mk 3 tag ser its keys) = false by rw [objB_3]; (try simp only [TStore.made_mk, TStore.records_mk, vAt_0, vAt_1, vAt_2]); simp [h_tag])
  have e_tag : (tag == 0) = false := by rw [beq_eq_false_iff_ne]; omega
  have n_tag : (tag != 0) = true := by rw [bne_iff_ne]; omega
  have l_key40 : decide ((keys.length : Int) ≤ 40) = true := decide_eq_true (by omega)
  have g_key40 : decide (40 < (keys.length : Int)) = false := decide_eq_false (by omega)
  have e_itk : ((its.length : Int) == (keys.length : Int) + 1) = false := by rw [beq_eq_false_iff_ne]; omega
  have e_itk2 : ((its.length : Int) == 1 + (keys.length : Int)) = false := by rw [beq_eq_false_iff_ne]; omega
  have e_itk3 : ((its.length : Int) == wrap64 (1 + (keys.length : Int))) = false := by rw [itk_eq (by omega) (by omega)]; exact decide_eq_false h_itk
  have H_dis := hide h_dis
  have H_allk := hide h_allk
  clear h_tag h_key40 h_dis h_allk h_itk
  exact rk7
 case pos =>
 cases h_alli : allB (TStore.mk x0 x1 x2 x3 x4 x5 x6 x7 x8 x9 x10 x11 x12) its
 case false =>
  have RR := hide (show objB (TStore.mk x0 x1 x2 x3 x4 x5 x6 x7 x8 x9 x10 x11 x12) (.mk 3 tag ser its keys) = false by rw [objB_3]; (try simp only [TStore.made_mk, TStore.records_mk, vAt_0, vAt_1, vAt_2]); simp [h_tag])
  have e_tag : (tag == 0) = false := by rw [beq_eq_false_iff_ne]; omega
  have n_tag : (tag != 0) = true := by rw [bne_iff_ne]; omega
  exact rk4
 case true =>
 have RR := hide (show objB (TStore.mk x0 x1 x2 x3 x4 x5 x6 x7 x8 x9 x10 x11 x12) (.mk 3 tag ser its keys) = false by rw [objB_3]; (try simp only [TStore.made_mk, TStore.records_mk, vAt_0, vAt_1, vAt_2]); simp [h_tag])
 have e_tag : (tag == 0) = false := by rw [beq_eq_false_iff_ne]; omega
 have n_tag : (tag != 0) = true := by rw [bne_iff_ne]; omega
 exact rk4
set_option maxHeartbeats 8000000 in
theorem implObj_3_c (tag ser : Int) (its keys : List TValue) (s : TStore) (h_tag : tag = 0) (h_key40 : ¬ keys.length ≤ 40) : ObjC 44 s (.mk 3 tag ser its keys) := by
 intro S S' q w vs hs hv
 have HS := hide hs
 obtain ⟨Ai, ci, Ak, ck, rfl, _, htag, hser, hRi, hRk⟩ := TObject.vals hv
 have HRi := hide hRi
 have HRk := hide hRk
 have hli := hRi.1
 have hmi := hRi.2.1
 have hlk := hRk.1
 have hmk := hRk.2.1
 simp only [List.length_map] at hli hlk
 unfold maxLen at hmi hmk
 clear hRi hRk hv
 obtain ⟨x0, x1, x2, x3, x4, x5, x6, x7, x8, x9, x10, x11, x12⟩ := s
 have HSt := hide hs
 obtain ⟨A0, c0, A1, c1, A2, c2, A3, c3, A6, c6, A7, c7, A8, c8, hq, e0, e1, e2, e3, e4, e5, e6, e7, e8, e9, e10, e11, e12, g0, g1, g2, g3, g4, g5, g6, g7, g8, g10, g11, g12⟩ := StoreAt.cells hs
 have hlc0 := g0.1
 have hcm0 := g0.2.1
 simp only [List.length_map] at hlc0
 unfold maxLen at hcm0
 have HR1 := hide g1
 have hlc1 := HR1.out.1
 have hcm1 := HR1.out.2.1
 simp only [List.length_map] at hlc1
 unfold maxLen at hcm1
 have hlc2 := g2.1
 have hcm2 := g2.2.1
 simp only [List.length_map] at hlc2
 unfold maxLen at hcm2
 have hlc3 := g3.1
 have hcm3 := g3.2.1
 simp only [List.length_map] at hlc3
 unfold maxLen at hcm3
 have hlc6 := g6.1
 have hcm6 := g6.2.1
 simp only [List.length_map] at hlc6
 unfold maxLen at hcm6
 have hlc7 := g7.1
 have hcm7 := g7.2.1
 simp only [List.length_map] at hlc7
 unfold maxLen at hcm7
 have hlc8 := g8.1
 have hcm8 := g8.2.1
 simp only [List.length_map] at hlc8
 unfold maxLen at hcm8
 unfold maxLen at g4
 clear hs g0 g1 g2 g3 g6 g7 g8
 have hqn : ¬ q = w.heap.size := by omega
 have hbw : Bel w w := Bel.refl w
 by_cases hs1 : ser < 1
 case pos =>
  have RR := hide (show objB (TStore.mk x0 x1 x2 x3 x4 x5 x6 x7 x8 x9 x10 x11 x12) (.mk 3 tag ser its keys) = false by rw [objB_3]; show (decide (1 ≤ ser ∧ ser ≤ x12) && _) = false; rw [decide_eq_false (show ¬ (1 ≤ ser ∧ ser ≤ x12) by omega)]; rfl)
  have ds1 : decide (ser < 1) = true := by simp; omega
  exact rk3
 case neg =>
 have ds1 : decide (ser < 1) = false := by simp; omega
 by_cases hs2 : x12 < ser
 case pos =>
  have RR := hide (show objB (TStore.mk x0 x1 x2 x3 x4 x5 x6 x7 x8 x9 x10 x11 x12) (.mk 3 tag ser its keys) = false by rw [objB_3]; show (decide (1 ≤ ser ∧ ser ≤ x12) && _) = false; rw [decide_eq_false (show ¬ (1 ≤ ser ∧ ser ≤ x12) by omega)]; rfl)
  have ds2 : decide (x12 < ser) = true := by simp; omega
  exact rk3
 case neg =>
 have ds2 : decide (x12 < ser) = false := by simp; omega
 by_cases h_itk : its.length = keys.length + 1
 case neg =>
  have RR := hide (show objB (TStore.mk x0 x1 x2 x3 x4 x5 x6 x7 x8 x9 x10 x11 x12) (.mk 3 tag ser its keys) = false by rw [objB_3]; (try simp only [TStore.made_mk, TStore.records_mk, vAt_0, vAt_1, vAt_2]); simp [h_key40])
  have e_tag : (tag == 0) = true := by rw [beq_iff_eq]; omega
  have n_tag : (tag != 0) = false := by rw [bne_eq_false_iff_eq]; omega
  have l_key40 : decide ((keys.length : Int) ≤ 40) = false := decide_eq_false (by omega)
  have g_key40 : decide (40 < (keys.length : Int)) = true := decide_eq_true (by omega)
  have e_itk : ((its.length : Int) == (keys.length : Int) + 1) = false := by rw [beq_eq_false_iff_ne]; omega
  have e_itk2 : ((its.length : Int) == 1 + (keys.length : Int)) = false := by rw [beq_eq_false_iff_ne]; omega
  have e_itk3 : ((its.length : Int) == wrap64 (1 + (keys.length : Int))) = false := by rw [itk_eq (by omega) (by omega)]; exact decide_eq_false h_itk
  clear h_tag h_key40 h_itk
  exact rk3
 case pos =>
 cases h_alli : allB (TStore.mk x0 x1 x2 x3 x4 x5 x6 x7 x8 x9 x10 x11 x12) its
 case false =>
  have RR := hide (show objB (TStore.mk x0 x1 x2 x3 x4 x5 x6 x7 x8 x9 x10 x11 x12) (.mk 3 tag ser its keys) = false by rw [objB_3]; (try simp only [TStore.made_mk, TStore.records_mk, vAt_0, vAt_1, vAt_2]); simp [h_key40])
  have e_tag : (tag == 0) = true := by rw [beq_iff_eq]; omega
  have n_tag : (tag != 0) = false := by rw [bne_eq_false_iff_eq]; omega
  have l_key40 : decide ((keys.length : Int) ≤ 40) = false := decide_eq_false (by omega)
  have g_key40 : decide (40 < (keys.length : Int)) = true := decide_eq_true (by omega)
  have e_itk : ((its.length : Int) == (keys.length : Int) + 1) = true := by rw [beq_iff_eq]; omega
  have e_itk2 : ((its.length : Int) == 1 + (keys.length : Int)) = true := by rw [beq_iff_eq]; omega
  have e_itk3 : ((its.length : Int) == wrap64 (1 + (keys.length : Int))) = true := by rw [itk_eq (by omega) (by omega)]; exact decide_eq_true h_itk
  have H_alli := hide h_alli
  clear h_tag h_key40 h_itk h_alli
  exact rk5
 case true =>
 have RR := hide (show objB (TStore.mk x0 x1 x2 x3 x4 x5 x6 x7 x8 x9 x10 x11 x12) (.mk 3 tag ser its keys) = false by rw [objB_3]; (try simp only [TStore.made_mk, TStore.records_mk, vAt_0, vAt_1, vAt_2]); simp [h_key40])
 have e_tag : (tag == 0) = true := by rw [beq_iff_eq]; omega
 have n_tag : (tag != 0) = false := by rw [bne_eq_false_iff_eq]; omega
 have l_key40 : decide ((keys.length : Int) ≤ 40) = false := decide_eq_false (by omega)
 have g_key40 : decide (40 < (keys.length : Int)) = true := decide_eq_true (by omega)
 have e_itk : ((its.length : Int) == (keys.length : Int) + 1) = true := by rw [beq_iff_eq]; omega
 have e_itk2 : ((its.length : Int) == 1 + (keys.length : Int)) = true := by rw [beq_iff_eq]; omega
 have e_itk3 : ((its.length : Int) == wrap64 (1 + (keys.length : Int))) = true := by rw [itk_eq (by omega) (by omega)]; exact decide_eq_true h_itk
 have H_alli := hide h_alli
 clear h_tag h_key40 h_itk h_alli
 exact rk5
end Go.Proofs.YtebbpcgiacckfaaDoor
