/- Part of the proof: is a generator valid. -/
import Derived.Test.YtebbpcgiacckfaaDoorPB
import Derived.Test.YtebbpcgiacckfaaDoorPTV
import Derived.Deep.QuietTactic
import Derived.BigQuiet
import Derived.Test.YtebbpcgiacckfaaDoorPAh
import Derived.Test.YtebbpcgiacckfaaDoorPS2z
import Derived.Test.YtebbpcgiacckfaaDoorPS5
import Derived.Test.YtebbpcgiacckfaaDoorPR0
import Derived.Deep.RegionHeld3
import Derived.Test.YtebbpcgiacckfaaDoorPS9
namespace Go.Proofs.YtebbpcgiacckfaaDoor
set_option linter.unusedVariables false
set_option linter.unusedSimpArgs false
set_option maxRecDepth 100000
open Go.ChangeShapes Go.WideShapes Go.RowKit Go.Deep
theorem lst4 {α : Type} {l : List α} (h : l.length = 4) : ∃ a0 a1 a2 a3, l = [a0, a1, a2, a3] := by
 match l, h with
 | [a0, a1, a2, a3], _ => exact ⟨a0, a1, a2, a3, rfl⟩
end Go.Proofs.YtebbpcgiacckfaaDoor
namespace Go.Proofs.YtebbpcgiacckfaaDoor
open Go.RowKit
set_option linter.unusedVariables false
theorem TStore.opn {w : World} {S : Nat → Prop} {x0 : List ByteArray} {x1 : List TRecordType} {x2 : List TObject} {x3 : List TValue} {x4 : ByteArray} {x5 : Int} {x6 : List ByteArray} {x7 : List ByteArray} {x8 : List TActive} {x9 : Bool} {x10 : Int} {x11 : Int} {x12 : Int} {vs : List Value} (E : TypeId) (hv : Dat.HoldVals w S (TStore.mk x0 x1 x2 x3 x4 x5 x6 x7 x8 x9 x10 x11 x12).D vs) :
 ∃ A0 c0 A1 c1 A2 c2 A3 c3 A6 c6 A7 c7 A8 c8, vs = [.slice A0 x0.length c0, .slice A1 x1.length c1, .slice A2 x2.length c2, .slice A3 x3.length c3, .string x4, .int .i64 x5, .slice A6 x6.length c6, .slice A7 x7.length c7, .slice A8 x8.length c8, .bool x9, .int .i64 x10, .int .i64 x11, .int .i64 x12] ∧ x0.length ≤ c0 ∧ c0 ≤ 2 ^ 63 - 1 ∧ x1.length ≤ c1 ∧ c1 ≤ 2 ^ 63 - 1 ∧ x2.length ≤ c2 ∧ c2 ≤ 2 ^ 63 - 1 ∧ x3.length ≤ c3 ∧ c3 ≤ 2 ^ 63 - 1 ∧ x6.length ≤ c6 ∧ c6 ≤ 2 ^ 63 - 1 ∧ x7.length ≤ c7 ∧ c7 ≤ 2 ^ 63 - 1 ∧ x8.length ≤ c8 ∧ c8 ≤ 2 ^ 63 - 1 ∧ x4.size ≤ 2 ^ 63 - 1 ∧ InI x5 ∧ InI x10 ∧ InI x11 ∧ InI x12 ∧ Hid (Row w S 1 A0 c0 (x0.map fun x => [.str x])) ∧ Hid (Row w S 3 A1 c1 (x1.map TRecordType.D)) ∧ Hid (Row w S 5 A2 c2 (x2.map TObject.D)) ∧ Hid (Row w S 6 A3 c3 (x3.map TValue.D)) ∧ Hid (Row w S 1 A6 c6 (x6.map fun x => [.str x])) ∧ Hid (Row w S 1 A7 c7 (x7.map fun x => [.str x])) ∧ Hid (Row w S 2 A8 c8 (x8.map TActive.D)) ∧ Hid (StoreAt (w.alloc (.cells vs.toArray E)) S w.heap.size (TStore.mk x0 x1 x2 x3 x4 x5 x6 x7 x8 x9 x10 x11 x12)) := by
 obtain ⟨A0, c0, A1, c1, A2, c2, A3, c3, A6, c6, A7, c7, A8, c8, hvs, g0, g1, g2, g3, g4, g5, g6, g7, g8, -, g10, g11, g12⟩ := TStore.vals hv
 have hl0 := g0.1
 have hm0 := g0.2.1
 simp only [List.length_map] at hl0
 unfold maxLen at hm0
 have hl1 := g1.1
 have hm1 := g1.2.1
 simp only [List.length_map] at hl1
 unfold maxLen at hm1
 have hl2 := g2.1
 have hm2 := g2.2.1
 simp only [List.length_map] at hl2
 unfold maxLen at hm2
 have hl3 := g3.1
 have hm3 := g3.2.1
 simp only [List.length_map] at hl3
 unfold maxLen at hm3
 have hl6 := g6.1
 have hm6 := g6.2.1
 simp only [List.length_map] at hl6
 unfold maxLen at hm6
 have hl7 := g7.1
 have hm7 := g7.2.1
 simp only [List.length_map] at hl7
 unfold maxLen at hm7
 have hl8 := g8.1
 have hm8 := g8.2.1
 simp only [List.length_map] at hl8
 unfold maxLen at hm8
 unfold maxLen at g4
 exact ⟨_, _, _, _, _, _, _, _, _, _, _, _, _, _, hvs, hl0, hm0, hl1, hm1, hl2, hm2, hl3, hm3, hl6, hm6, hl7, hm7, hl8, hm8, g4, g5, g10, g11, g12, hide g0, hide g1, hide g2, hide g3, hide g6, hide g7, hide g8, hide (StoreAt.mk_of hv rfl)⟩
theorem rq0 {p : Prop} (h : p := by
  have hd : decide ((m : Int) < (l.length : Int)) = true := by simp; omega
  (obtain ⟨b21, o21, x21_0, x21_1, x21_2, x21_3, x21_4, x21_5, hA21, hS21, hl21, hx21, hv21, g21_0, g21_1, g21_2, g21_3, g21_4, g21_5, c21_0, c21_1, c21_2, c21_3, c21_4, c21_5⟩ := TValue.at HR.out m h1; subst hA21; have HV21 := hide (Dat.HoldVals.bel hbw hv21); have hh21 := hbw.box b21 hl21; have hw21 := Nat.lt_of_lt_of_le hl21 (Bel.size hbw); replace c21_0 := (hh21 _).trans c21_0; replace c21_1 := (hh21 _).trans c21_1; replace c21_2 := (hh21 _).trans c21_2; replace c21_3 := (hh21 _).trans c21_3; replace c21_4 := (hh21 _).trans c21_4; replace c21_5 := (hh21 _).trans c21_5; have HX21 := hide hx21; clear hh21 hv21 hx21 hS21)
  have hne1 : ¬ b21 = wr.heap.size := by omega
  have HN := hide (show inB (TStore.mk x0 x1 x2 x3 x4 x5 x6 x7 x8 x9 x10 x11 x12) ⟨x21_0, x21_1, x21_2, x21_3, x21_4, x21_5⟩ = true by have := inAll_at HALL.out h1; rw [HX21.out] at this; exact this)
  have mkq := True.intro
  repeat (any_goals ((first | clear mkq | go_quiet (fail)); (try go_wp2_with (go_at_call 52; refine (implIn_any (TStore.mk x0 x1 x2 x3 x4 x5 x6 x7 x8 x9 x10 x11 x12) ⟨x21_0, x21_1, x21_2, x21_3, x21_4, x21_5⟩ S w.heap.size _ (StoreAt.bel (show Bel wr _ from bl) HSr.out) ⟨g21_0, g21_1, g21_2, g21_3, g21_4, g21_5⟩).mono ?_; rintro e w2 ⟨rfl, hb2⟩; rw [HN.out]))))
  go_roundw
  case rel => exact ⟨m + 1, by go_num, by omega, bl⟩
  case measure => simp [intOf]; omega) : p := h
theorem rq1 {p : Prop} (h : p := by
  have hd : decide ((m : Int) < (l.length : Int)) = true := by simp; omega
  (obtain ⟨b1, o1, x1_0, x1_1, x1_2, x1_3, x1_4, x1_5, hA1, hS1, hl1, hx1, hv1, g1_0, g1_1, g1_2, g1_3, g1_4, g1_5, c1_0, c1_1, c1_2, c1_3, c1_4, c1_5⟩ := TValue.at HR.out m h1; subst hA1; have HV1 := hide (Dat.HoldVals.bel hbw hv1); have hh1 := hbw.box b1 hl1; have hw1 := Nat.lt_of_lt_of_le hl1 (Bel.size hbw); replace c1_0 := (hh1 _).trans c1_0; replace c1_1 := (hh1 _).trans c1_1; replace c1_2 := (hh1 _).trans c1_2; replace c1_3 := (hh1 _).trans c1_3; replace c1_4 := (hh1 _).trans c1_4; replace c1_5 := (hh1 _).trans c1_5; have HX1 := hide hx1; clear hh1 hv1 hx1 hS1)
  have hne1 : ¬ b1 = wr.heap.size := by omega
  have HN := hide (show inB s ⟨x1_0, x1_1, x1_2, x1_3, x1_4, x1_5⟩ = true by have := inAll_at HALL.out h1; rw [HX1.out] at this; exact this)
  have mkq := True.intro
  repeat (any_goals ((first | clear mkq | go_quiet (fail)); (try go_wp2_with (go_at_call 50; refine (specIn_any s ⟨x1_0, x1_1, x1_2, x1_3, x1_4, x1_5⟩ S q _ (StoreAt.bel bl HS.out) ⟨g1_0, g1_1, g1_2, g1_3, g1_4, g1_5⟩).mono ?_; rintro e w1 ⟨rfl, hb1⟩; rw [HN.out]))))
  go_roundw
  case rel => exact ⟨m + 1, by go_num, by omega, bl⟩
  case measure => simp [intOf]; omega) : p := h
theorem rq2 {p : Prop} (h : p := by
  exact ⟨(Bel.box (W := wr) bl (w.heap.size + 1) hl1 _).trans p0, (Bel.box (W := wr) bl (w.heap.size + 1) hl1 _).trans p2, (Bel.box (W := wr) bl (w.heap.size + 1) hl1 _).trans p3, (Bel.box (W := wr) bl b22 hb2w _).trans c22_0, (Bel.box (W := wr) bl b22 hb2w _).trans c22_1, (Bel.box (W := wr) bl b22 hb2w _).trans c22_2, (Bel.box (W := wr) bl b22 hb2w _).trans c22_3, (Bel.box (W := wr) bl b22 hb2w _).trans c22_4, (Bel.box (W := wr) bl b22 hb2w _).trans c22_5, (Bel.box (W := wr) bl b22 hb2w _).trans c23_0, (Bel.box (W := wr) bl b22 hb2w _).trans c23_1, (Bel.box (W := wr) bl b22 hb2w _).trans c23_2, (Bel.box (W := wr) bl b22 hb2w _).trans c23_3, (Bel.box (W := wr) bl b22 hb2w _).trans c23_4, (Bel.box (W := wr) bl b22 hb2w _).trans c23_5, (Bel.box (W := wr) bl b22 hb2w _).trans c24_0, (Bel.box (W := wr) bl b22 hb2w _).trans c24_1⟩) : p := h
theorem rq3 {p : Prop} (h : p := by
  have hd : decide ((m : Int) < (3 : Int)) = true := by simp; omega
  (obtain ⟨b1, o1, x1_0, x1_1, x1_2, x1_3, x1_4, x1_5, hA1, hS1, hl1, hx1, hv1, g1_0, g1_1, g1_2, g1_3, g1_4, g1_5, c1_0, c1_1, c1_2, c1_3, c1_4, c1_5⟩ := TValue.at HR.out m h1; subst hA1; have HV1 := hide (Dat.HoldVals.bel hbw hv1); have hh1 := hbw.box b1 hl1; have hw1 := Nat.lt_of_lt_of_le hl1 (Bel.size hbw); replace c1_0 := (hh1 _).trans c1_0; replace c1_1 := (hh1 _).trans c1_1; replace c1_2 := (hh1 _).trans c1_2; replace c1_3 := (hh1 _).trans c1_3; replace c1_4 := (hh1 _).trans c1_4; replace c1_5 := (hh1 _).trans c1_5; have HX1 := hide hx1; clear hh1 hv1 hx1 hS1)
  have hne1 : ¬ b1 = wr.heap.size := by omega
  have HN := hide (show inB s ⟨x1_0, x1_1, x1_2, x1_3, x1_4, x1_5⟩ = true by have := inAll_at HALL.out h1; rw [HX1.out] at this; exact this)
  have mkq := True.intro
  repeat (any_goals ((first | clear mkq | go_quiet (fail)); (try go_wp2_with (go_at_call 50; refine (specIn_any s ⟨x1_0, x1_1, x1_2, x1_3, x1_4, x1_5⟩ S q _ (StoreAt.bel bl HS.out) ⟨g1_0, g1_1, g1_2, g1_3, g1_4, g1_5⟩).mono ?_; rintro e w1 ⟨rfl, hb1⟩; rw [HN.out]))))
  go_roundw
  case rel => exact ⟨m + 1, by go_num, by omega, bl⟩
  case measure => simp [intOf]; omega) : p := h
theorem rq4 {p : Prop} (h : p := by
  exact ⟨(Bel.box (W := wr) bl w.heap.size hl0 _).trans p0, (Bel.box (W := wr) bl w.heap.size hl0 _).trans p1, (Bel.box (W := wr) bl w.heap.size hl0 _).trans p2, (Bel.box (W := wr) bl w.heap.size hl0 _).trans p3, (Bel.box (W := wr) bl b2 hb2w _).trans c3_3, (Bel.box (W := wr) bl b2 hb2w _).trans c4_1⟩) : p := h
theorem rq5 {p : Prop} (h : p := by
  have hd : decide ((m : Int) < (l.length : Int)) = false := by simp; omega
  go_wp2_with (fail)
  repeat (any_goals (go_quiet (fail); (try go_wp2_with (fail))))
  all_goals
   go_returns
   exact ⟨by rw [RR.out]; first | done | rfl, bl⟩) : p := h
theorem rq6 {p : Prop} (h : p := by
  exact ⟨(Bel.box (W := wr) bl (w.heap.size + 1) hl1 _).trans p3, (Bel.box (W := wr) bl b22 hb2w _).trans c22_0, (Bel.box (W := wr) bl b22 hb2w _).trans c23_0, (Bel.box (W := wr) bl b22 hb2w _).trans c23_1, (Bel.box (W := wr) bl b22 hb2w _).trans c23_2, (Bel.box (W := wr) bl b22 hb2w _).trans c23_3, (Bel.box (W := wr) bl b22 hb2w _).trans c23_4, (Bel.box (W := wr) bl b22 hb2w _).trans c23_5, (Bel.box (W := wr) bl b22 hb2w _).trans c24_0, (Bel.box (W := wr) bl b22 hb2w _).trans c24_1, (Bel.box (W := wr) bl b22 hb2w _).trans c24_2, (Bel.box (W := wr) bl b22 hb2w _).trans c24_3, (Bel.box (W := wr) bl b22 hb2w _).trans c24_4, (Bel.box (W := wr) bl b22 hb2w _).trans c24_5⟩) : p := h
theorem rq7 {p : Prop} (h : p := by
  exact ⟨(Bel.box (W := wr) bl w.heap.size hl0 _).trans p0, (Bel.box (W := wr) bl w.heap.size hl0 _).trans p1, (Bel.box (W := wr) bl w.heap.size hl0 _).trans p2, (Bel.box (W := wr) bl w.heap.size hl0 _).trans p3, (Bel.box (W := wr) bl b2 hb2w _).trans c2_0, (Bel.box (W := wr) bl b2 hb2w _).trans c2_3, (Bel.box (W := wr) bl b2 hb2w _).trans c3_0, (Bel.box (W := wr) bl b2 hb2w _).trans c3_1, (Bel.box (W := wr) bl b2 hb2w _).trans c4_0, (Bel.box (W := wr) bl b2 hb2w _).trans c4_1⟩) : p := h
theorem rq8 {p : Prop} (h : p := by
  have hd : decide ((m : Int) < (l.length : Int)) = false := by simp; omega
  go_wp2_with (fail)
  repeat (any_goals (go_quiet (fail); (try go_wp2_with (fail))))
  all_goals (try (go_wp2_with (fail)))
  all_goals
   go_returns
   exact ⟨by rw [RR.out]; first | done | rfl, bl⟩) : p := h
theorem rq9 {p : Prop} (h : p := by
  have hd : decide ((m : Int) < (1 : Int)) = true := by simp; omega
  (obtain ⟨b1, o1, x1_0, x1_1, x1_2, x1_3, x1_4, x1_5, hA1, hS1, hl1, hx1, hv1, g1_0, g1_1, g1_2, g1_3, g1_4, g1_5, c1_0, c1_1, c1_2, c1_3, c1_4, c1_5⟩ := TValue.at HR.out m h1; subst hA1; have HV1 := hide (Dat.HoldVals.bel hbw hv1); have hh1 := hbw.box b1 hl1; have hw1 := Nat.lt_of_lt_of_le hl1 (Bel.size hbw); replace c1_0 := (hh1 _).trans c1_0; replace c1_1 := (hh1 _).trans c1_1; replace c1_2 := (hh1 _).trans c1_2; replace c1_3 := (hh1 _).trans c1_3; replace c1_4 := (hh1 _).trans c1_4; replace c1_5 := (hh1 _).trans c1_5; have HX1 := hide hx1; clear hh1 hv1 hx1 hS1)
  have hne1 : ¬ b1 = wr.heap.size := by omega
  have HN := hide (show inB s ⟨x1_0, x1_1, x1_2, x1_3, x1_4, x1_5⟩ = true by have := inAll_at HALL.out h1; rw [HX1.out] at this; exact this)
  have mkq := True.intro
  repeat (any_goals ((first | clear mkq | go_quiet (fail)); (try go_wp2_with (go_at_call 50; refine (specIn_any s ⟨x1_0, x1_1, x1_2, x1_3, x1_4, x1_5⟩ S q _ (StoreAt.bel bl HS.out) ⟨g1_0, g1_1, g1_2, g1_3, g1_4, g1_5⟩).mono ?_; rintro e w1 ⟨rfl, hb1⟩; rw [HN.out]))))
  go_roundw
  case rel => exact ⟨m + 1, by go_num, by omega, bl⟩
  case measure => simp [intOf]; omega) : p := h
theorem rq10 {p : Prop} (h : p := by
  exact ⟨(Bel.box (W := wr) bl w.heap.size hl0 _).trans p0, (Bel.box (W := wr) bl w.heap.size hl0 _).trans p1, (Bel.box (W := wr) bl w.heap.size hl0 _).trans p2, (Bel.box (W := wr) bl w.heap.size hl0 _).trans p3⟩) : p := h
theorem rq11 {p : Prop} (h : p := by
  go_enter Tryd.func57, Tryd.ntmps57
  go_wp2_with (fail)
  repeat (any_goals (go_quiet (fail); (try go_wp2_with (fail))))
  all_goals
   go_returns
   exact ⟨by rw [RR.out]; first | done | rfl, bl⟩) : p := h
theorem rq12 {p : Prop} (h : p := by
  have RR := hide (R1.out.trans (show (decide ((vAt l 2).n = 0 ∨ (vAt l 2).n = 1) && pairsB (l.drop 3)) = pairsB (l.drop 3) by rw [HV2.out, decide_eq_true (show x24_1 = 0 ∨ x24_1 = 1 from Or.inr hm1)]; rfl))
  have fm0 : (x24_1 == 0) = false := by rw [beq_eq_false_iff_ne]; exact hm0
  have fm1 : (x24_1 == 1) = true := by rw [beq_iff_eq]; exact hm1
  clear hm1
  have mkq := True.intro
  repeat (any_goals ((first | clear mkq | go_quiet (fail)); (try go_wp2_with (go_at_call 58; refine (goodPairs3 l S' _ b22 o22 _ c _ _ (Row.bel bl HR.out) (by have := HL5.out; omega) (by have := HL5.out; omega) (by have := HL5.out; omega) (by omega) (by omega)).mono ?_; rintro e w10 ⟨rfl, hb10⟩))))
  all_goals
   go_returns
   exact ⟨by rw [RR.out]; first | done | rfl, bl⟩) : p := h
theorem rq13 {p : Prop} (h : p := by
  have hd : decide ((m : Int) < (l.length : Int)) = false := by simp; omega
  have mkq := True.intro
  repeat (any_goals ((first | clear mkq | go_quiet (fail)); (try go_wp2_with (go_at_call 29; refine (l1InS_any _ _ _ _).mono ?_; rintro e w8 ⟨rfl, rfl⟩; rw [HC.out]))))
  all_goals
   go_returns
   exact ⟨by rw [RR.out]; first | done | rfl, bl⟩) : p := h
theorem rq14 {p : Prop} (h : p := by
  have RR := hide (R1.out.trans (show (decide ((vAt l 2).n = 0 ∨ (vAt l 2).n = 1) && pairsB (l.drop 3)) = pairsB (l.drop 3) by rw [HV2.out, decide_eq_true (show x24_1 = 0 ∨ x24_1 = 1 from Or.inl hm0)]; rfl))
  have fm0 : (x24_1 == 0) = true := by rw [beq_iff_eq]; exact hm0
  clear hm0
  have mkq := True.intro
  repeat (any_goals ((first | clear mkq | go_quiet (fail)); (try go_wp2_with (go_at_call 58; refine (goodPairs3 l S' _ b22 o22 _ c _ _ (Row.bel bl HR.out) (by have := HL5.out; omega) (by have := HL5.out; omega) (by have := HL5.out; omega) (by omega) (by omega)).mono ?_; rintro e w10 ⟨rfl, hb10⟩))))
  all_goals
   go_returns
   exact ⟨by rw [RR.out]; first | done | rfl, bl⟩) : p := h
theorem rq15 {p : Prop} (h : p := by
  have RR := hide (R1.out.trans (show _ = false by rw [decide_eq_false ha]; simp))
  have f0 : (x22_0 == 1) = false := by rw [beq_eq_false_iff_ne]; exact ha
  clear ha
  go_wp2_with (fail)
  repeat (any_goals (go_quiet (fail); (try go_wp2_with (fail))))
  all_goals
   go_returns
   exact ⟨by rw [RR.out]; first | done | rfl, bl⟩) : p := h
theorem rq16 {p : Prop} (h : p := by
  have RR := hide (R1.out.trans (show _ = false by rw [decide_eq_false hb]; simp))
  have f1 : (x23_0 == 1) = false := by rw [beq_eq_false_iff_ne]; exact hb
  clear hb
  go_wp2_with (fail)
  repeat (any_goals (go_quiet (fail); (try go_wp2_with (fail))))
  all_goals
   go_returns
   exact ⟨by rw [RR.out]; first | done | rfl, bl⟩) : p := h
theorem rq17 {p : Prop} (h : p := by
  have RR := hide (R1.out.trans (show _ = false by rw [decide_eq_false hc]; simp))
  have f2 : (x24_0 == 1) = false := by rw [beq_eq_false_iff_ne]; exact hc
  clear hc
  go_wp2_with (fail)
  repeat (any_goals (go_quiet (fail); (try go_wp2_with (fail))))
  all_goals
   go_returns
   exact ⟨by rw [RR.out]; first | done | rfl, bl⟩) : p := h
theorem rq18 {p : Prop} (h : p := by
  have fz : (x24_1 != 0) = false := by rw [bne_eq_false_iff_eq]; exact hz
  have RR := hide (RR.out.trans (decide_eq_false (by omega)))
  clear hz
  go_wp2_with (fail)
  repeat (any_goals (go_quiet (fail); (try go_wp2_with (fail))))
  all_goals
   go_returns
   exact ⟨by rw [RR.out]; first | done | rfl, bl⟩) : p := h
theorem rq19 {p : Prop} (h : p := by
  have fz : (x24_1 != 0) = true := by rw [bne_iff_ne]; exact hz
  have RR := hide (RR.out.trans (decide_eq_true hz))
  clear hz
  go_wp2_with (fail)
  repeat (any_goals (go_quiet (fail); (try go_wp2_with (fail))))
  all_goals
   go_returns
   exact ⟨by rw [RR.out]; first | done | rfl, bl⟩) : p := h
theorem rq20 {p : Prop} (h : p := by
  intro h
  refine ⟨h 0 (by simp), ih.2 fun t ht => ?_⟩
  have := h (t + 1) (by simp; omega)
  rw [show 2 * (t + 1) = 2 * t + 2 by omega, e, show 2 * t + 2 + 1 = (2 * t + 1) + 2 by omega, e] at this; exact this) : p := h
end Go.Proofs.YtebbpcgiacckfaaDoor
namespace Go.Proofs.YtebbpcgiacckfaaDoor
set_option linter.unusedVariables false
set_option linter.unusedSimpArgs false
set_option maxRecDepth 100000
open Go.ChangeShapes Go.WideShapes Go.RowKit Go.Deep
theorem trodTGenerator {H : Type} {enc : TypeId × Value → H} {w : World} {spare : Nat → Bool} {held : Bool} : ∀ (fuel : Nat) (cs : List Value) (x : DataW H × List MemPlace), DataW.trod enc Tryd.prog w 0 spare held fuel 55 cs = some x → ∃ t : TGenerator, Dat.HoldVals w (fun _ => True) t.D cs := by
 intro fuel
 induction fuel using Nat.strongRecOn with
 | ind fuel ih =>
 intro cs x h
 obtain ⟨xs, n, rfl, hx, hl, hlen, hg⟩ := DataW.trod_struct Tryd.underlying55 h
 obtain ⟨c0, c1, c2, c3, rfl⟩ := lst4 (hl.trans (by kernel_rfl))
 obtain ⟨y0, y1, y2, y3, rfl⟩ := lst4 (hlen.trans (by kernel_rfl))
 have g0 := hg 0 _ rfl
 have g1 := hg 1 _ rfl
 have g2 := hg 2 _ rfl
 have g3 := hg 3 _ rfl
 obtain ⟨a0, e0, _, w0⟩ := DataW.trod_int (cs := [c0]) Tryd.underlying3 g0
 simp only [List.cons.injEq, and_true] at e0
 subst e0
 obtain ⟨a1, e1, _, w1⟩ := DataW.trod_int (cs := [c1]) Tryd.underlying3 g1
 simp only [List.cons.injEq, and_true] at e1
 subst e1
 obtain ⟨a2, e2, _, w2⟩ := DataW.trod_int (cs := [c2]) Tryd.underlying3 g2
 simp only [List.cons.injEq, and_true] at e2
 subst e2
 obtain ⟨a3, A3, q3, e3, hR3⟩ := open_row TValue.D (cs := [c3]) (k := 6) Tryd.underlying25 (by kernel_rfl) (by decide) TValue.D_len (fun m _ cs x h => trodTValue m cs x h) g3
 simp only [List.cons.injEq, and_true] at e3
 subst e3
 exact ⟨.mk a0 a1 a2 a3, TGenerator.vals_mk (inI_of_wf w0) (inI_of_wf w1) (inI_of_wf w2) hR3⟩
theorem openTGenerator {H : Type} {enc : TypeId × Value → H} {w : World} {spare : Nat → Bool} {held : Bool} {r : Reach} {b0 : Nat} {v : Value} {d : DataW H} {p : List MemPlace} (hv : Value.okWide Tryd.prog w r b0 55 v) (h : DataW.Trod enc Tryd.prog w 0 spare held 55 v d p) :
  ∃ (t : TGenerator) (vs : List Value), v = .agg vs.toArray ∧ Dat.HoldVals w (fun _ => True) t.D vs := by
 obtain ⟨cs, rfl, hsz⟩ := okWide_struct Tryd.underlying55 hv
 obtain ⟨fuel, hf⟩ := h
 obtain ⟨t, h1⟩ := trodTGenerator fuel _ _ hf
 exact ⟨t, cs.toList, rfl, h1⟩
end Go.Proofs.YtebbpcgiacckfaaDoor
namespace Go.Proofs.YtebbpcgiacckfaaDoor
set_option linter.unusedVariables false
set_option linter.unusedSimpArgs false
set_option maxRecDepth 100000
open Go.RowKit
def isRef (k : Int) : Bool := decide (13 ≤ k) && decide (k ≤ 18)
set_option maxHeartbeats 400000 in
theorem specIsReference_any (v : VVal) (w : World) :
  Calls Tryd.prog 88 #[v.val] w fun e w' => e = .returned (.bool (isRef v.k)) ∧ Bel w w' := by
 obtain ⟨k, n, i, t, lo, hi⟩ := v
 simp only [VVal.val]
 by_cases h1 : 13 ≤ k
 ·
  have hd : decide (13 ≤ k) = true := by simp [h1]
  go_enter Tryd.func88, Tryd.ntmps88
  go_wp2
  go_returns
  refine ⟨?_, bl⟩
  simp [isRef, h1]
 ·
  have hd : decide (13 ≤ k) = false := by simp [h1]
  go_enter Tryd.func88, Tryd.ntmps88
  go_wp2
  go_returns
  refine ⟨?_, bl⟩
  simp [isRef]
  omega
set_option maxHeartbeats 400000 in
theorem implIsReference_any (v : VVal) (w : World) :
  Calls Tryd.prog 89 #[v.val] w fun e w' => e = .returned (.bool (isRef v.k)) ∧ Bel w w' := by
 obtain ⟨k, n, i, t, lo, hi⟩ := v
 simp only [VVal.val]
 by_cases h1 : 13 ≤ k
 ·
  have hd : decide (13 ≤ k) = true := by simp [h1]
  go_enter Tryd.func89, Tryd.ntmps89
  go_wp2
  go_returns
  refine ⟨?_, bl⟩
  simp [isRef, h1]
 ·
  have hd : decide (13 ≤ k) = false := by simp [h1]
  go_enter Tryd.func89, Tryd.ntmps89
  go_wp2
  go_returns
  refine ⟨?_, bl⟩
  simp [isRef]
  omega
end Go.Proofs.YtebbpcgiacckfaaDoor
namespace Go.Proofs.YtebbpcgiacckfaaDoor
set_option linter.unusedVariables false
set_option linter.unusedSimpArgs false
set_option maxRecDepth 100000
open Go.RowKit
def SzGenerator (t : TGenerator) : Prop := ∀ (S : Nat → Prop) (w : World) (vs : List Value) (left : Int), Dat.HoldVals w S t.D vs → 0 ≤ left → left ≤ 1048576 →
 Calls Tryd.prog 19 #[.agg vs.toArray, .int .i64 left] w fun e w' => e = .returned (.int .i64 (szL (Dat.wtL t.D) left)) ∧ Bel w w'
def ToGenerator (t : TGenerator) : Prop := ∀ (S : Nat → Prop) (w : World) (vs : List Value), Dat.HoldVals w S t.D vs → Dat.wtL t.D ≤ 1048576 →
 Calls Tryd.prog 21 #[.agg vs.toArray] w (MadeV w t.D)
def EqGenerator (t : TGenerator) : Prop := ∀ (S S' : Nat → Prop) (w : World) (vs vs' : List Value), Dat.HoldVals w S t.D vs → Dat.HoldVals w S' t.D vs' →
 Calls Tryd.prog 23 #[.agg vs.toArray, .agg vs'.toArray] w fun e w' => e = .returned (.bool true) ∧ Bel w w'
set_option maxHeartbeats 1000000 in
theorem szGenerator_any : ∀ t : TGenerator, SzGenerator t := by
 rintro ⟨x0, x1, x2, x3⟩
 intro S w vs left hv h0 h1
 obtain ⟨A3, c3, rfl, g0, g1, g2, hR3⟩ := TGenerator.vals hv
 have R3 := hide hR3
 clear hv hR3
 rw [TGenerator.D_mk]
 simp only [Dat.wtL, Dat.wt, List.length_map]
 go_enter Tryd.func19, Tryd.ntmps19
 go_wp2_with (fail)
 refine (Calls.szTwo (szValueS_any x3 S _ _ _ _ (Row.bel bl R3.out) (by omega) (by omega))).mono ?_
 rintro e w1 ⟨l1, rfl, hl1, hb1⟩
 (have hz1 := hb1.sz; obtain ⟨hk1_0, hf1_0, hl1_0, hn1_0⟩ := hb1.lay (w.heap.size))
 rcases hl1 with ⟨hq1, rfl⟩ | ⟨hq1, hz1'⟩
 ·
  have HQ1 := hide hq1
  clear hq1
  go_wp2_with (fail)
  all_goals
   go_returns
   have HQ1' := HQ1.out
   exact ⟨ret_i64 (by rw [szL_no (by omega)]), bl⟩
 have HQ1 := hide hq1
 have HL1 := hide hz1'
 have ha1 : 0 ≤ l1 := by omega
 have hc1 : l1 ≤ 1048576 := by omega
 clear hq1 hz1'
 go_wp2_with (fail)
 all_goals
  go_returns
  have HQ1' := HQ1.out
  have HL1' := HL1.out
  exact ⟨ret_i64 (by rw [szL_yes (by omega)]; omega), bl⟩
set_option maxHeartbeats 1000000 in
theorem toGenerator_any : ∀ t : TGenerator, ToGenerator t := by
 rintro ⟨x0, x1, x2, x3⟩
 intro S w vs hv hwt
 obtain ⟨A3, c3, rfl, g0, g1, g2, hR3⟩ := TGenerator.vals hv
 have R3 := hide hR3
 have HW := hide hwt
 rw [TGenerator.D_mk] at hwt
 simp only [Dat.wtL, Dat.wt, List.length_map] at hwt
 have hw3 : x3.length + Dat.wtR (x3.map TValue.D) ≤ 1048576 := by omega
 clear hv hwt hR3
 go_enter Tryd.func21, Tryd.ntmps21
 go_wp2_with (fail)
 refine (toValueS_any x3 S _ _ _ (Row.bel bl R3.out) hw3).mono ?_
 rintro e w1 ⟨B3, d3, rfl, hQ3, hb1⟩
 (have hz1 := hb1.sz; obtain ⟨hk1_0, hf1_0, hl1_0, hn1_0⟩ := hb1.lay (w.heap.size); obtain ⟨hk1_1, hf1_1, hl1_1, hn1_1⟩ := hb1.lay (w.heap.size + 1); obtain ⟨hk1_2, hf1_2, hl1_2, hn1_2⟩ := hb1.lay (w.heap.size + 1 + 1))
 have Q3 := hide (Row.wide (S' := fun b => w.heap.size + 2 < b) (fun b hb => by simp at hb; omega) hQ3)
 clear hQ3
 go_wp2_with (fail)
 exact bodyPost_ret (v := .agg #[.int .i64 x0, .int .i64 x1, .int .i64 x2, .slice B3 x3.length d3]) (by simp [results, Tryd.results21, go_sem, hk1_1, hf1_1]) rfl
  ⟨[.int .i64 x0, .int .i64 x1, .int .i64 x2, .slice B3 x3.length d3], rfl, TGenerator.vals_mk g0 g1 g2 (Row.wide (fun b hb => by omega) (Row.off ofl Q3.out)), bl⟩
set_option maxHeartbeats 1000000 in
theorem eqGenerator_any : ∀ t : TGenerator, EqGenerator t := by
 rintro ⟨x0, x1, x2, x3⟩
 intro S S' w vs vs' hv hv'
 obtain ⟨A3, c3, rfl, g0, g1, g2, hR3⟩ := TGenerator.vals hv
 obtain ⟨eA3, ec3, rfl, -, -, -, ehR3⟩ := TGenerator.vals hv'
 have R3 := hide hR3
 have T3 := hide ehR3
 clear hv hv' hR3 ehR3
 go_enter Tryd.func23, Tryd.ntmps23
 go_wp2_with (first
  | (go_at_call 48; (with_reducible refine (eqValueS_any x3 S S' _ _ _ _ _ (Row.bel bl R3.out) (Row.bel bl T3.out)).mono ?_); rintro e w1 ⟨rfl, hb1⟩; have hz1 := hb1.sz; obtain ⟨hk1_0, hf1_0, hl1_0, hn1_0⟩ := hb1.lay (w.heap.size); obtain ⟨hk1_1, hf1_1, hl1_1, hn1_1⟩ := hb1.lay (w.heap.size + 1); (try simp only [VVal.val])))
 all_goals
  go_returns
  exact ⟨rfl, bl⟩
end Go.Proofs.YtebbpcgiacckfaaDoor
namespace Go.Proofs.YtebbpcgiacckfaaDoor
set_option linter.unusedVariables false
set_option linter.unusedSimpArgs false
set_option maxRecDepth 100000
open Go.RowKit
def goodPl (s : ByteArray) (n : Int) : Bool := decide (s.size ≤ 120) && decide (1 ≤ n) && decide (n ≤ s.size + 1)
set_option maxHeartbeats 400000 in
theorem l17At_any (s : ByteArray) (n : Int) (w : World) (hs : s.size ≤ maxLen) :
  Calls Tryd.prog 87 #[.string s, .int .i64 n] w fun e w' => e = .returned (.bool (goodPl s n)) ∧ w = w' := by
 unfold maxLen at hs
 by_cases h1 : s.size ≤ 120 <;> by_cases h2 : 1 ≤ n <;> by_cases h3 : n ≤ s.size + 1
 all_goals
  go_enter Tryd.func87, Tryd.ntmps87
  go_wp2
  all_goals
   go_ret
   exact ⟨by simp [goodPl, *], rfl⟩
end Go.Proofs.YtebbpcgiacckfaaDoor
namespace Go.Proofs.YtebbpcgiacckfaaDoor
set_option linter.unusedVariables false
set_option linter.unusedSimpArgs false
set_option maxRecDepth 100000
open Go.RowKit
--%quiet
def inAllB (s : TStore) (l : List TValue) : Bool := l.all fun x => inB s x.v
def kindsB (l : List TValue) (ks : List Int) : Bool := decide (l.map (fun x => x.v.k) = ks)
def placeB (a p : VVal) : Bool := decide (a.k = 2) && decide (p.k = 1) && decide (1 ≤ p.n ∧ p.n ≤ (a.t.size : Int) + 1)
def opsB (op : Int) (l : List TValue) : Bool :=
 if op = 7 then decide (l.length = 1) && decide ((vAt l 0).k ≤ 12)
 else if op = 72 ∨ op = 338 then kindsB l [1, 1, 1] && decide ((vAt l 2).n ≠ 0)
 else if op = 317 then kindsB l [5]
 else if op = 320 then kindsB l [2, 2, 1] && placeB (vAt l 1) (vAt l 2)
 else if op = 321 then kindsB l [3, 2, 1] && placeB (vAt l 1) (vAt l 2)
 else false
def pairsB : List TValue → Bool
 | a :: b :: r => isRef a.v.k && decide (b.v.k ≤ 12) && pairsB r
 | _ => true
def undoB (op : Int) (l : List TValue) : Bool :=
  decide (3 ≤ l.length) && placeB (vAt l 0) (vAt l 1) && decide ((vAt l 2).k = 1) &&
    (if op = 8 ∨ op = 325 ∨ op = 326 then decide (l.length = 3) && decide ((vAt l 2).n = 2)
     else if op = 61 then decide (l.length = 5) && decide ((vAt l 2).n = 0 ∨ (vAt l 2).n = 1) && pairsB (l.drop 3)
     else if op = 63 then decide (l.length = 7) && decide ((vAt l 2).n = 0 ∨ (vAt l 2).n = 1) && pairsB (l.drop 3)
     else false)
def genB (s : TStore) (kd op ct : Int) (l : List TValue) : Bool :=
 inAllB s l && (if kd = 1 then decide (1 ≤ ct) && decide (ct ≤ 5000) && opsB op l else decide (kd = 2) && decide (ct = 0) && undoB op l)
theorem inAll_at {s : TStore} {l : List TValue} (h : inAllB s l = true) {i : Nat} (hi : i < l.length) : inB s l[i].v = true := by
 unfold inAllB at h; exact List.all_eq_true.1 h _ (List.getElem_mem hi)
theorem inAll_yes {s : TStore} {l : List TValue} (h : ∀ i (hi : i < l.length), inB s l[i].v = true) : inAllB s l = true := by
 unfold inAllB; rw [List.all_eq_true]; intro x hx
 obtain ⟨i, hi, rfl⟩ := List.getElem_of_mem hx
 exact h i hi
theorem kinds_len {l : List TValue} {ks : List Int} (h : l.length ≠ ks.length) : kindsB l ks = false := by
 unfold kindsB; rw [decide_eq_false_iff_not]; intro e; exact h (by rw [← e, List.length_map])
theorem kinds_no {l : List TValue} {ks : List Int} {m : Nat} (hm : m < l.length) (hk : m < ks.length) (h : l[m].v.k ≠ ks[m]) : kindsB l ks = false := by
 unfold kindsB; rw [decide_eq_false_iff_not]; intro e
 subst e; exact h (by simp)
theorem kinds_yes {l : List TValue} {ks : List Int} (hl : l.length = ks.length) (h : ∀ j (hj : j < l.length) (hk : j < ks.length), l[j].v.k = ks[j]) : kindsB l ks = true := by
 unfold kindsB; rw [decide_eq_true_iff]
 exact List.ext_getElem (by rw [List.length_map, hl]) fun i h1 h2 => by rw [List.getElem_map]; exact h i _ h2
set_option maxHeartbeats 2000000 in
theorem kinds_any (kd op ct : Int) (l : List TValue) (ks : List Int) (S : Nat → Prop) (w : World) (A : Option Addr) (c bk : Nat) (hR : Row w S 6 A c (l.map TValue.D)) (hbk : bk < w.heap.size)
  (hk : ∀ j (hj : j < ks.length), w.cell? ⟨bk, j, none⟩ = some (.int .i64 ks[j])) (hkl : ks.length ≤ 10) :
  Calls Tryd.prog 86 #[.agg #[.int .i64 kd, .int .i64 op, .int .i64 ct, .slice A l.length c], .slice (some ⟨bk, 0, none⟩) ks.length ks.length] w fun e w' => e = .returned (.bool (kindsB l ks)) ∧ Bel w w' := by
 have HR := hide hR
 have hlen := hR.1
 have hcm := hR.2.1
 simp only [List.length_map] at hlen
 unfold maxLen at hcm
 have HK := hide hk
 clear hR hk
 by_cases hl : l.length = ks.length
 case neg =>
  have RR := hide (kinds_len hl)
  have f1 : ((l.length : Int) != (ks.length : Int)) = true := by rw [bne_iff_ne]; omega
  go_enter Tryd.func86, Tryd.ntmps86
  go_wp2_with (fail)
  repeat (any_goals (go_quiet (fail); (try go_wp2_with (fail))))
  all_goals
   go_returns
   exact ⟨by rw [RR.out]; first | done | rfl, bl⟩
 have f1 : ((l.length : Int) != (ks.length : Int)) = false := by rw [bne_eq_false_iff_eq]; omega
 have HL := hide hl
 clear hl
 go_enter Tryd.func86, Tryd.ntmps86
 go_wp2_with (fail)
 repeat (any_goals (go_quiet (fail); (try go_wp2_with (fail))))
 go_loopw [5] (fun v wr => ∃ m : Nat, v = .int .i64 m ∧ m ≤ ks.length ∧ Hid (∀ j (hj : j < l.length) (hk : j < ks.length), j < m → l[j].v.k = ks[j]) ∧ Bel (w.alloc (.cells #[.int .i64 kd, .int .i64 op, .int .i64 ct, .slice A l.length c] 59)) wr) (fun v _ => ks.length - (intOf v).toNat)
 case atStart => exact ⟨0, rfl, by omega, fun j _ _ hj => by omega, Bel.refl _⟩
 case round =>
  obtain ⟨m, rfl, m1, hm, hb0⟩ := hrel
  have hbw : Bel w wr := bl
  have hz0 := hb0.size
  simp only [World.size_alloc] at hz0
  have p3 : wr.cell? ⟨w.heap.size, 3, none⟩ = some (.slice A l.length c) := (hb0.box w.heap.size (by simp) 3).trans (by simp)
  have hl0 : w.heap.size < wr.heap.size := by omega
  by_cases h1 : m < ks.length
  ·
   have h2 : m < l.length := by have := HL.out; omega
   have hd : decide ((m : Int) < (ks.length : Int)) = true := by simp [h1]
   have hd2 : decide ((m : Int) < (l.length : Int)) = true := by simp [h2]
   (obtain ⟨b1, o1, x1_0, x1_1, x1_2, x1_3, x1_4, x1_5, hA1, hS1, hl1, hx1, hv1, g1_0, g1_1, g1_2, g1_3, g1_4, g1_5, c1_0, c1_1, c1_2, c1_3, c1_4, c1_5⟩ := TValue.at HR.out m h2; subst hA1; have HV1 := hide (Dat.HoldVals.bel hbw hv1); have hh1 := hbw.box b1 hl1; have hw1 := Nat.lt_of_lt_of_le hl1 (Bel.size hbw); replace c1_0 := (hh1 _).trans c1_0; replace c1_1 := (hh1 _).trans c1_1; replace c1_2 := (hh1 _).trans c1_2; replace c1_3 := (hh1 _).trans c1_3; replace c1_4 := (hh1 _).trans c1_4; replace c1_5 := (hh1 _).trans c1_5; have HX1 := hide hx1; clear hh1 hv1 hx1 hS1)
   have k1 : wr.cell? ⟨bk, m, none⟩ = some (.int .i64 ks[m]) := (hbw.box bk hbk m).trans (HK.out m h1)
   have HQ := hide (show l[m].v.k = x1_0 by rw [HX1.out]; rfl)
   obtain ⟨km, hkm⟩ : ∃ km, ks[m] = km := ⟨_, rfl⟩
   rw [hkm] at k1
   have HKM := hide hkm
   clear hkm
   by_cases hn : x1_0 = km
   ·
    have f2 : (x1_0 != km) = false := by rw [bne_eq_false_iff_eq]; exact hn
    have HN := hide hn
    clear hn
    go_wp2_with (fail)
    repeat (any_goals (go_quiet (fail); (try go_wp2_with (fail))))
    repeat (any_goals (go_quiet (fail); (try go_wp2_with (fail))))
    go_roundw
    case rel => exact ⟨m + 1, by go_num, by omega, fun j hj hk hjm => by
     by_cases e : j = m
     ·
      subst e; exact HQ.out.trans (HN.out.trans HKM.out.symm)
     ·
      exact hm.out j hj hk (by omega), bl⟩
    case measure => simp [intOf]; omega
   ·
    have f2 : (x1_0 != km) = true := by rw [bne_iff_ne]; exact hn
    have RR := hide (kinds_no h2 h1 (by rw [HQ.out, HKM.out]; exact hn))
    clear hn
    go_wp2_with (fail)
    repeat (any_goals (go_quiet (fail); (try go_wp2_with (fail))))
    repeat (any_goals (go_quiet (fail); (try go_wp2_with (fail))))
    all_goals
     go_returns
     exact ⟨by rw [RR.out]; first | done | rfl, bl⟩
  ·
   have hd : decide ((m : Int) < (ks.length : Int)) = false := by simp [h1]
   have RR := hide (kinds_yes (l := l) (ks := ks) HL.out fun j hj hk => hm.out j hj hk (by omega))
   go_wp2_with (fail)
   repeat (any_goals (go_quiet (fail); (try go_wp2_with (fail))))
   all_goals
    go_returns
    exact ⟨by rw [RR.out]; first | done | rfl, bl⟩
end Go.Proofs.YtebbpcgiacckfaaDoor
namespace Go.Proofs.YtebbpcgiacckfaaDoor
set_option linter.unusedVariables false
set_option linter.unusedSimpArgs false
set_option maxRecDepth 100000
open Go.RowKit
--%quiet
abbrev GenC (f : FuncId) (s : TStore) (kd op ct : Int) (l : List TValue) : Prop := ∀ (S S' : Nat → Prop) (q : Nat) (w : World) (A : Option Addr) (c : Nat), StoreAt w S q s → Row w S' 6 A c (l.map TValue.D) →
 Calls Tryd.prog f #[.pointer (some ⟨q, 0, none⟩), .agg #[.int .i64 kd, .int .i64 op, .int .i64 ct, .slice A l.length c]] w fun e w' => e = .returned (.bool (genB s kd op ct l)) ∧ Bel w w'
theorem gen_in {s : TStore} {kd op ct : Int} {l : List TValue} (h : inAllB s l = false) : genB s kd op ct l = false := by unfold genB; rw [h]; rfl
theorem gen_1 {s : TStore} {op ct : Int} {l : List TValue} (h : inAllB s l = true) : genB s 1 op ct l = (decide (1 ≤ ct) && decide (ct ≤ 5000) && opsB op l) := by unfold genB; rw [h, if_pos rfl, Bool.true_and]
theorem gen_1n {s : TStore} {op ct : Int} {l : List TValue} (h : inAllB s l = true) (hc : ¬ (1 ≤ ct ∧ ct ≤ 5000)) : genB s 1 op ct l = false := by
 rw [gen_1 h]; cases h1 : decide (1 ≤ ct) <;> cases h2 : decide (ct ≤ 5000) <;> first | rfl | (exfalso; exact hc ⟨of_decide_eq_true h1, of_decide_eq_true h2⟩)
theorem gen_1y {s : TStore} {op ct : Int} {l : List TValue} (h : inAllB s l = true) (hc : 1 ≤ ct ∧ ct ≤ 5000) : genB s 1 op ct l = opsB op l := by
 rw [gen_1 h, decide_eq_true hc.1, decide_eq_true hc.2]; rfl
theorem opsB_7 (l : List TValue) : opsB 7 l = (decide (l.length = 1) && decide ((vAt l 0).k ≤ 12)) := by unfold opsB; rw [if_pos rfl]
theorem opsB_72 (l : List TValue) : opsB 72 l = (kindsB l [1, 1, 1] && decide ((vAt l 2).n ≠ 0)) := by unfold opsB; rw [if_neg (by decide), if_pos (by decide)]
theorem opsB_338 (l : List TValue) : opsB 338 l = (kindsB l [1, 1, 1] && decide ((vAt l 2).n ≠ 0)) := by unfold opsB; rw [if_neg (by decide), if_pos (by decide)]
theorem opsB_317 (l : List TValue) : opsB 317 l = kindsB l [5] := by unfold opsB; rw [if_neg (by decide), if_neg (by decide), if_pos rfl]
theorem opsB_320 (l : List TValue) : opsB 320 l = (kindsB l [2, 2, 1] && placeB (vAt l 1) (vAt l 2)) := by unfold opsB; rw [if_neg (by decide), if_neg (by decide), if_neg (by decide), if_pos rfl]
theorem opsB_321 (l : List TValue) : opsB 321 l = (kindsB l [3, 2, 1] && placeB (vAt l 1) (vAt l 2)) := by unfold opsB; rw [if_neg (by decide), if_neg (by decide), if_neg (by decide), if_neg (by decide), if_pos rfl]
theorem opsB_out {op : Int} (l : List TValue) (h : op ≠ 7 ∧ op ≠ 72 ∧ op ≠ 338 ∧ op ≠ 317 ∧ op ≠ 320 ∧ op ≠ 321) : opsB op l = false := by
 unfold opsB; rw [if_neg h.1, if_neg (by omega), if_neg h.2.2.2.1, if_neg h.2.2.2.2.1, if_neg h.2.2.2.2.2]
theorem kinds_3 {l : List TValue} {x y z : Int} (h : kindsB l [x, y, z] = true) : ∃ a b c0, l = [a, b, c0] := by
 unfold kindsB at h
 have := congrArg List.length (of_decide_eq_true h)
 simp at this
 match l, this with
 | [a, b, c0], _ => exact ⟨a, b, c0, rfl⟩
theorem kinds_1 {l : List TValue} {x : Int} (h : kindsB l [x] = true) : ∃ a, l = [a] := by
 unfold kindsB at h
 have := congrArg List.length (of_decide_eq_true h)
 simp at this
 exact List.length_eq_one_iff.1 (by simpa using this)
theorem well_t2 {v : VVal} (h : wellB v = true) (hk : v.k = 2) : v.t.size ≤ 120 := by
 obtain ⟨k, n, i, t, lo, hi⟩ := v
 obtain rfl : k = 2 := hk
 show t.size ≤ 120
 unfold wellB at h; simp at h; omega
theorem place_good {a p : VVal} (h1 : a.k = 2) (h2 : p.k = 1) (h3 : a.t.size ≤ 120) : placeB a p = goodPl a.t p.n := by
 unfold placeB goodPl
 rw [h1, h2, decide_eq_true h3]; simp
end Go.Proofs.YtebbpcgiacckfaaDoor
namespace Go.Proofs.YtebbpcgiacckfaaDoor
set_option linter.unusedVariables false
set_option linter.unusedSimpArgs false
set_option maxRecDepth 100000
open Go.RowKit
--%quiet
theorem gen_2n {s : TStore} {kd op ct : Int} {l : List TValue} (h1 : kd ≠ 1) (h : ¬ (kd = 2 ∧ ct = 0 ∧ undoB op l = true)) : genB s kd op ct l = false := by
 unfold genB; rw [if_neg h1]
 cases ha : inAllB s l
 ·
  rfl
 ·
  by_cases a : kd = 2
  ·
   by_cases b : ct = 0
   ·
    cases c : undoB op l
    ·
     simp
    ·
     exact absurd ⟨a, b, c⟩ h
   ·
    simp [b]
  ·
   simp [a]
theorem gen_2y {s : TStore} {op : Int} {l : List TValue} (h : inAllB s l = true) : genB s 2 op 0 l = undoB op l := by
 unfold genB; rw [h, if_neg (by decide)]; simp
theorem undo_len {op : Int} {l : List TValue} (h : undoB op l = true) : 3 ≤ l.length ∧ l.length % 2 = 1 := by
 unfold undoB at h; simp only [Bool.and_eq_true, decide_eq_true_eq] at h
 obtain ⟨⟨⟨h1, -⟩, -⟩, h2⟩ := h
 refine ⟨h1, ?_⟩
 split at h2
 ·
  simp at h2; omega
 ·
  split at h2
  ·
   simp at h2; omega
  ·
   split at h2
   ·
    simp at h2; omega
   ·
    cases h2
theorem undo_place {op : Int} {l : List TValue} (h : undoB op l = true) : placeB (vAt l 0) (vAt l 1) = true ∧ (vAt l 2).k = 1 := by
 unfold undoB at h; simp only [Bool.and_eq_true, decide_eq_true_eq] at h
 exact ⟨h.1.1.2, h.1.2⟩
theorem undo_pairs {op : Int} {l : List TValue} (h : undoB op l = true) : pairsB (l.drop 3) = true := by
 unfold undoB at h; simp only [Bool.and_eq_true, decide_eq_true_eq] at h
 obtain ⟨⟨⟨h1, -⟩, -⟩, h2⟩ := h
 split at h2
 ·
  simp at h2
  rw [List.drop_eq_nil_of_le (by omega)]; rfl
 ·
  split at h2
  ·
   simp at h2; exact h2.2
  ·
   split at h2
   ·
    simp at h2; exact h2.2
   ·
    cases h2
theorem pairs_iff : ∀ (n : Nat) (l : List TValue), l.length ≤ n → (pairsB l = true ↔ ∀ t, 2 * t + 1 < l.length → isRef (vAt l (2 * t)).k = true ∧ (vAt l (2 * t + 1)).k ≤ 12)
 | _, [], _ => by simp [pairsB]
 | _, [a], _ => by simp [pairsB]
 | 0, a :: b :: r, h => by simp at h
 | n + 1, a :: b :: r, h => by
  have ih := pairs_iff n r (by simp at h; omega)
  have e : ∀ i, vAt (a :: b :: r) (i + 2) = vAt r i := fun i => rfl
  unfold pairsB
  simp only [Bool.and_eq_true, decide_eq_true_eq]
  constructor
  ·
   rintro ⟨⟨h1, h2⟩, h3⟩ t ht
   cases t with
   | zero => exact ⟨h1, h2⟩
   | succ t =>
    have := ih.1 h3 t (by simp at ht; omega)
    rw [show 2 * (t + 1) = 2 * t + 2 by omega, e, show 2 * t + 2 + 1 = (2 * t + 1) + 2 by omega, e]; exact this
  ·
   exact rq20
theorem vAt_drop (l : List TValue) (k i : Nat) : vAt (l.drop k) i = vAt l (k + i) := by unfold vAt; simp [List.getD]
theorem pairs_bad {l : List TValue} {j : Nat} (hj : 3 + 2 * j + 1 < l.length) (h : ¬ (isRef (vAt l (3 + 2 * j)).k = true ∧ (vAt l (3 + 2 * j + 1)).k ≤ 12)) : pairsB (l.drop 3) = false := by
 cases hb : pairsB (l.drop 3)
 ·
  rfl
 ·
  have := (pairs_iff _ _ (Nat.le_refl _)).1 hb j (by rw [List.length_drop]; omega)
  rw [vAt_drop, vAt_drop, show 3 + (2 * j + 1) = 3 + 2 * j + 1 by omega] at this; exact absurd this h
theorem pairs_good {l : List TValue} (h : ∀ j, 3 + 2 * j + 1 < l.length → isRef (vAt l (3 + 2 * j)).k = true ∧ (vAt l (3 + 2 * j + 1)).k ≤ 12) : pairsB (l.drop 3) = true :=
 (pairs_iff _ _ (Nat.le_refl _)).2 fun t ht => by
  rw [List.length_drop] at ht
  rw [vAt_drop, vAt_drop, show 3 + (2 * t + 1) = 3 + 2 * t + 1 by omega]; exact h t (by omega)
theorem undo_val {op : Int} {l : List TValue} (h1 : 3 ≤ l.length) (h2 : placeB (vAt l 0) (vAt l 1) = true) (h3 : (vAt l 2).k = 1) (h4 : pairsB (l.drop 3) = true) :
  undoB op l = (if op = 8 ∨ op = 325 ∨ op = 326 then decide (l.length = 3) && decide ((vAt l 2).n = 2) else if op = 61 then decide (l.length = 5) && decide ((vAt l 2).n = 0 ∨ (vAt l 2).n = 1) else if op = 63 then decide (l.length = 7) && decide ((vAt l 2).n = 0 ∨ (vAt l 2).n = 1) else false) := by
 unfold undoB; rw [decide_eq_true h1, h2, decide_eq_true h3, h4]; simp only [Bool.true_and, Bool.and_true]
end Go.Proofs.YtebbpcgiacckfaaDoor
namespace Go.Proofs.YtebbpcgiacckfaaDoor
set_option linter.unusedVariables false
set_option linter.unusedSimpArgs false
set_option maxRecDepth 100000
open Go.RowKit
--%quiet
set_option maxHeartbeats 2000000 in
theorem isPlace_any (a p : VVal) (w : World) (ha : a.k = 2 → a.t.size ≤ 120) : Calls Tryd.prog 57 #[.agg #[.int .i64 a.k, .int .i64 a.n, .int .i64 a.i, .string a.t, .int .i64 a.lo, .int .i64 a.hi], .agg #[.int .i64 p.k, .int .i64 p.n, .int .i64 p.i, .string p.t, .int .i64 p.lo, .int .i64 p.hi]] w fun e w' => e = .returned (.bool (placeB a p)) ∧ Bel w w' := by
 obtain ⟨ak, an, ai, at', alo, ahi⟩ := a
 obtain ⟨pk, pn, pi, pt, plo, phi⟩ := p
 simp only at ha ⊢
 by_cases h1 : ak = 2
 case neg =>
  have RR := hide (show placeB ⟨ak, an, ai, at', alo, ahi⟩ ⟨pk, pn, pi, pt, plo, phi⟩ = false by unfold placeB; rw [decide_eq_false h1]; rfl)
  have f1 : (ak == 2) = false := by rw [beq_eq_false_iff_ne]; exact h1
  clear h1 ha
  exact rq11
 subst h1
 have hts := ha rfl
 by_cases h2 : pk = 1
 case neg =>
  have RR := hide (show placeB ⟨2, an, ai, at', alo, ahi⟩ ⟨pk, pn, pi, pt, plo, phi⟩ = false by unfold placeB; rw [decide_eq_false h2]; simp)
  have f1 : (pk == 1) = false := by rw [beq_eq_false_iff_ne]; exact h2
  clear h2 ha
  exact rq11
 subst h2
 have R0 := hide (show placeB ⟨2, an, ai, at', alo, ahi⟩ ⟨1, pn, pi, pt, plo, phi⟩ = (decide (1 ≤ pn) && decide (pn ≤ (at'.size : Int) + 1)) by unfold placeB; simp)
 have sm : IntKind.i64.wrap ((at'.size : Int) + 1) = (at'.size : Int) + 1 := by rw [IntKind.wrap_i64] <;> omega
 clear ha
 by_cases h3 : 1 ≤ pn
 case neg =>
  have RR := hide (R0.out.trans (show _ = false by rw [decide_eq_false h3]; rfl))
  have f1 : decide (1 ≤ pn) = false := decide_eq_false h3
  clear h3
  exact rq11
 have f1 : decide (1 ≤ pn) = true := decide_eq_true h3
 by_cases h4 : pn ≤ (at'.size : Int) + 1
 ·
  have RR := hide (R0.out.trans (show _ = true by rw [f1, decide_eq_true h4]; rfl))
  have f2 : decide (pn ≤ (at'.size : Int) + 1) = true := decide_eq_true h4
  clear h3 h4
  exact rq11
 ·
  have RR := hide (R0.out.trans (show _ = false by rw [f1, decide_eq_false h4]; rfl))
  have f2 : decide (pn ≤ (at'.size : Int) + 1) = false := decide_eq_false h4
  clear h3 h4
  exact rq11
theorem pairs_iffP : ∀ (n : Nat) (l : List TValue), l.length ≤ n → (pairsB l = true ↔ ∀ t, 2 * t + 1 < l.length → isRef (vAt l (2 * t)).k = true ∧ (vAt l (2 * t + 1)).k ≤ 12)
 | _, [], _ => by simp [pairsB]
 | _, [a], _ => by simp [pairsB]
 | 0, a :: b :: r, h => by simp at h
 | n + 1, a :: b :: r, h => by
  have ih := pairs_iffP n r (by simp at h; omega)
  have e : ∀ i, vAt (a :: b :: r) (i + 2) = vAt r i := fun i => rfl
  unfold pairsB
  simp only [Bool.and_eq_true, decide_eq_true_eq]
  constructor
  ·
   rintro ⟨⟨h1, h2⟩, h3⟩ t ht
   cases t with
   | zero => exact ⟨h1, h2⟩
   | succ t =>
    have := ih.1 h3 t (by simp at ht; omega)
    rw [show 2 * (t + 1) = 2 * t + 2 by omega, e, show 2 * t + 2 + 1 = (2 * t + 1) + 2 by omega, e]; exact this
  ·
   exact rq20
set_option maxHeartbeats 2000000 in
theorem goodPairs_any (l : List TValue) (S : Nat → Prop) (w : World) (A : Option Addr) (c : Nat) (hR : Row w S 6 A c (l.map TValue.D)) (hl40 : l.length ≤ 1000) :
  Calls Tryd.prog 58 #[.slice A l.length c] w fun e w' => e = .returned (.bool (pairsB l)) ∧ Bel w w' := by
 have HR := hide hR
 have hlen := hR.1
 have hcm := hR.2.1
 simp only [List.length_map] at hlen
 unfold maxLen at hcm
 clear hR
 go_enter Tryd.func58, Tryd.ntmps58
 go_wp2_with (fail)
 repeat (any_goals (go_quiet (fail); (try go_wp2_with (fail))))
 go_loopw [3] (fun v wr => ∃ i : Nat, v = .int .i64 i ∧ i ≤ l.length + 1 ∧ Hid (∃ j, i = 2 * j ∧ ∀ t, t < j → isRef (vAt l (2 * t)).k = true ∧ (vAt l (2 * t + 1)).k ≤ 12) ∧ Bel w wr) (fun v _ => l.length + 2 - (intOf v).toNat)
 case atStart => exact ⟨0, rfl, by omega, ⟨0, rfl, fun t ht => by omega⟩, Bel.refl _⟩
 case round =>
  obtain ⟨i, rfl, hi, hm, hbw⟩ := hrel
  have sw1 : IntKind.i64.wrap ((i : Int) + 1) = (i : Int) + 1 := by rw [IntKind.wrap_i64] <;> omega
  have sw2 : IntKind.i64.wrap ((i : Int) + 2) = (i : Int) + 2 := by rw [IntKind.wrap_i64] <;> omega
  by_cases h3 : i + 1 < l.length
  ·
   have h2 : i < l.length := by omega
   have e0 : decide ((i : Int) < (l.length : Int)) = true := by simp; omega
   have e1 : decide ((i : Int) + 1 < (l.length : Int)) = true := by simp; omega
   (obtain ⟨b5, o5, x5_0, x5_1, x5_2, x5_3, x5_4, x5_5, hA5, hS5, hl5, hx5, hv5, g5_0, g5_1, g5_2, g5_3, g5_4, g5_5, c5_0, c5_1, c5_2, c5_3, c5_4, c5_5⟩ := TValue.at HR.out i h2; subst hA5; have HV5 := hide (Dat.HoldVals.bel hbw hv5); have hh5 := hbw.box b5 hl5; have hw5 := Nat.lt_of_lt_of_le hl5 (Bel.size hbw); replace c5_0 := (hh5 _).trans c5_0; replace c5_1 := (hh5 _).trans c5_1; replace c5_2 := (hh5 _).trans c5_2; replace c5_3 := (hh5 _).trans c5_3; replace c5_4 := (hh5 _).trans c5_4; replace c5_5 := (hh5 _).trans c5_5; have HX5 := hide hx5; clear hh5 hv5 hx5 hS5)
   (obtain ⟨b6, o6, x6_0, x6_1, x6_2, x6_3, x6_4, x6_5, hA6, hS6, hl6, hx6, hv6, g6_0, g6_1, g6_2, g6_3, g6_4, g6_5, c6_0, c6_1, c6_2, c6_3, c6_4, c6_5⟩ := TValue.at HR.out (i + 1) h3; injection Option.some.inj hA6 with qb6 qo6 _; subst qb6 qo6; have HV6 := hide (Dat.HoldVals.bel hbw hv6); have hh6 := hbw.box b5 hl6; have hw6 := Nat.lt_of_lt_of_le hl6 (Bel.size hbw); replace c6_0 := (hh6 _).trans c6_0; replace c6_1 := (hh6 _).trans c6_1; replace c6_2 := (hh6 _).trans c6_2; replace c6_3 := (hh6 _).trans c6_3; replace c6_4 := (hh6 _).trans c6_4; replace c6_5 := (hh6 _).trans c6_5; have HX6 := hide hx6; clear hh6 hv6 hx6 hS6)
   have HW5 := hide (show vAt l i = ⟨x5_0, x5_1, x5_2, x5_3, x5_4, x5_5⟩ by rw [vAt_get h2, HX5.out]; rfl)
   have HW6 := hide (show vAt l (i + 1) = ⟨x6_0, x6_1, x6_2, x6_3, x6_4, x6_5⟩ by rw [vAt_get h3, HX6.out]; rfl)
   cases hrf : isRef x5_0
   ·
    have HRF := hide hrf
    have RR := hide (show pairsB l = false by
     cases hb : pairsB l
     ·
      rfl
     ·
      obtain ⟨j, hj, -⟩ := hm.out
      have := ((pairs_iffP _ _ (Nat.le_refl _)).1 hb j (by omega)).1
      rw [← hj, HW5.out] at this; rw [show isRef (VVal.k ⟨x5_0, x5_1, x5_2, x5_3, x5_4, x5_5⟩) = isRef x5_0 from rfl, hrf] at this; cases this)
    clear hrf
    have mkq := True.intro
    repeat (any_goals ((first | clear mkq | go_quiet (fail)); (try go_wp2_with (go_at_call 89; refine (implIsReference_any ⟨x5_0, x5_1, x5_2, x5_3, x5_4, x5_5⟩ _).mono ?_; rintro e w5 ⟨rfl, hb5⟩; rw [HRF.out]; (have hz5 := hb5.sz; obtain ⟨hk5_0, hf5_0, hl5_0, hn5_0⟩ := hb5.lay (b5))))))
    all_goals
     go_returns
     exact ⟨by rw [RR.out]; first | done | rfl, bl⟩
   ·
    have HRF := hide hrf
    clear hrf
    by_cases h12 : x6_0 ≤ 12
    ·
     have f12 : decide (12 < x6_0) = false := by simp; omega
     have H12 := hide h12
     clear h12
     have mkq := True.intro
     repeat (any_goals ((first | clear mkq | go_quiet (fail)); (try go_wp2_with (go_at_call 89; refine (implIsReference_any ⟨x5_0, x5_1, x5_2, x5_3, x5_4, x5_5⟩ _).mono ?_; rintro e w5 ⟨rfl, hb5⟩; rw [HRF.out]; (have hz5 := hb5.sz; obtain ⟨hk5_0, hf5_0, hl5_0, hn5_0⟩ := hb5.lay (b5))))))
     go_roundw
     case rel => exact ⟨i + 2, by go_num, by omega, by
      obtain ⟨j, hj, hg⟩ := hm.out
      refine ⟨j + 1, by omega, fun t ht => ?_⟩
      by_cases e : t = j
      ·
       subst e; rw [← hj, HW5.out, HW6.out]; exact ⟨HRF.out, H12.out⟩
      ·
       exact hg t (by omega), bl⟩
     case measure => simp [intOf]; omega
    ·
     have f12 : decide (12 < x6_0) = true := by simp; omega
     have RR := hide (show pairsB l = false by
      cases hb : pairsB l
      ·
       rfl
      ·
       obtain ⟨j, hj, -⟩ := hm.out
       have := ((pairs_iffP _ _ (Nat.le_refl _)).1 hb j (by omega)).2
       rw [← hj, HW6.out] at this; exact absurd this h12)
     clear h12
     have mkq := True.intro
     repeat (any_goals ((first | clear mkq | go_quiet (fail)); (try go_wp2_with (go_at_call 89; refine (implIsReference_any ⟨x5_0, x5_1, x5_2, x5_3, x5_4, x5_5⟩ _).mono ?_; rintro e w5 ⟨rfl, hb5⟩; rw [HRF.out]; (have hz5 := hb5.sz; obtain ⟨hk5_0, hf5_0, hl5_0, hn5_0⟩ := hb5.lay (b5))))))
     all_goals
      go_returns
      exact ⟨by rw [RR.out]; first | done | rfl, bl⟩
  ·
   have e1 : decide ((i : Int) + 1 < (l.length : Int)) = false := by simp; omega
   have RR := hide (show pairsB l = true from (pairs_iffP _ _ (Nat.le_refl _)).2 fun t ht => by
    obtain ⟨j, hj, hg⟩ := hm.out
    exact hg t (by omega))
   go_wp2_with (fail)
   repeat (any_goals (go_quiet (fail); (try go_wp2_with (fail))))
   all_goals
    go_returns
    exact ⟨by rw [RR.out]; first | done | rfl, bl⟩
end Go.Proofs.YtebbpcgiacckfaaDoor
namespace Go.Proofs.YtebbpcgiacckfaaDoor
set_option linter.unusedVariables false
set_option linter.unusedSimpArgs false
set_option maxRecDepth 100000
open Go.RowKit
--%quiet
theorem len1 {l : List TValue} (h : l.length = 1) : ∃ a, l = [a] := List.length_eq_one_iff.1 h
theorem len3 {l : List TValue} (h : l.length = 3) : ∃ a b c0, l = [a, b, c0] := by
 match l, h with
 | [a, b, c0], _ => exact ⟨a, b, c0, rfl⟩
theorem kinds_get1 {l : List TValue} {x : Int} (h : l.length = 1) : kindsB l [x] = decide ((vAt l 0).k = x) := by
 obtain ⟨a, rfl⟩ := len1 h
 show kindsB [a] [x] = decide (a.v.k = x)
 unfold kindsB; rw [Bool.eq_iff_iff, decide_eq_true_iff, decide_eq_true_iff]; simp
theorem kinds_get3 {l : List TValue} {x y z : Int} (h : l.length = 3) : kindsB l [x, y, z] = (decide ((vAt l 0).k = x) && decide ((vAt l 1).k = y) && decide ((vAt l 2).k = z)) := by
 obtain ⟨a, b, c0, rfl⟩ := len3 h
 show kindsB [a, b, c0] [x, y, z] = (decide (a.v.k = x) && decide (b.v.k = y) && decide (c0.v.k = z))
 unfold kindsB; rw [Bool.eq_iff_iff, decide_eq_true_iff]; simp only [Bool.and_eq_true, decide_eq_true_iff]; simp [and_assoc]
theorem kinds_place {l : List TValue} {x : Int} (h : l.length = 3) : (kindsB l [x, 2, 1] && placeB (vAt l 1) (vAt l 2)) = (decide ((vAt l 0).k = x) && placeB (vAt l 1) (vAt l 2)) := by
 rw [kinds_get3 h]; unfold placeB
 cases decide ((vAt l 0).k = x) <;> cases decide ((vAt l 1).k = 2) <;> cases decide ((vAt l 2).k = 1) <;> rfl
abbrev GenI (s : TStore) (kd op ct : Int) (l : List TValue) : Prop := ∀ (S S' : Nat → Prop) (w : World) (vs : List Value) (A : Option Addr) (c : Nat), Sp w → Dat.HoldVals w S s.D vs → Row w S' 6 A c (l.map TValue.D) →
 Calls Tryd.prog 22 #[.agg vs.toArray, .agg #[.int .i64 kd, .int .i64 op, .int .i64 ct, .slice A l.length c]] w fun e w' => e = .returned (.bool (validB s && genB s kd op ct l)) ∧ Bel w w'
end Go.Proofs.YtebbpcgiacckfaaDoor
namespace Go.Proofs.YtebbpcgiacckfaaDoor
set_option linter.unusedVariables false
set_option linter.unusedSimpArgs false
set_option maxRecDepth 100000
open Go.RowKit
--%quiet
theorem Row.dropN {w : World} {S : Nat → Prop} {k b o c : Nat} {xs : List (List Dat)} (h : Row w S k (some ⟨b, o, none⟩) c xs) (n : Nat) (hn : n < xs.length) : Row w S k (some ⟨b, o + n * k, none⟩) (c - n) (xs.drop n) := by
 obtain ⟨h1, h2, h3⟩ := h
 refine ⟨by rw [List.length_drop]; omega, by omega, fun _ => ?_⟩
 obtain ⟨b', o', e, hS, hl, hr⟩ := h3 (by intro e; rw [e] at hn; simp at hn)
 injection Option.some.inj e with q1 q2 _
 subst q1 q2
 refine ⟨b, o + n * k, rfl, hS, hl, Dat.HoldRows.mk fun i hi' => ?_⟩
 have := Dat.HoldRows.get hr (n + i) (by rw [List.length_drop] at hi'; omega)
 rw [Nat.add_mul, ← Nat.add_assoc] at this
 rw [List.getElem_drop]; exact this
theorem goodPairs3 (l : List TValue) (S : Nat → Prop) (w : World) (b o o' c m d : Nat) (hR : Row w S 6 (some ⟨b, o, none⟩) c (l.map TValue.D)) (h3 : 3 < l.length) (hl : l.length ≤ 1000) (hm : m = l.length - 3) (hd : d = c - 3) (ho : o' = o + 18) :
  Calls Tryd.prog 58 #[.slice (some ⟨b, o', none⟩) m d] w fun e w' => e = .returned (.bool (pairsB (l.drop 3))) ∧ Bel w w' := by
 subst hm hd ho
 have h := goodPairs_any (l.drop 3) S w (some ⟨b, o + 3 * 6, none⟩) (c - 3) (by have h9 := Row.dropN hR 3 (by simpa using h3); rw [← List.map_drop] at h9; exact h9) (by rw [List.length_drop]; omega)
 rw [List.length_drop] at h
 exact h
theorem slice_from3V {b o len c : Nat} (h3 : 3 < len) (hc : len ≤ c) (w : World) : (Instr.slice 33 (.slice (some ⟨b, o, none⟩) len c) (some (.int .i64 3)) none none).run Tryd.prog w = .ok (.slice (some ⟨b, o + 18, none⟩) (len - 3) (c - 3)) w := by
 have hn : ¬ c = 3 := by omega
 rw [run_slice_l (P := Tryd.prog) (ht := by rw [Tryd.underlying33]; kernel_rfl) (h0 := by omega) (h1 := by omega)]
 simp [sliced, go_sem, Tryd.sizeOf48, Addr.add, hn]
theorem slice_from3V' {b o len c : Nat} (h3 : 3 < len) (hc : len ≤ c) (w : World) : (Instr.sliceAt 33 (.slice (some ⟨b, o, none⟩) len c) (some (.int .i64 3)) none none).run Tryd.prog w = .ok (.slice (some ⟨b, o + 18, none⟩) (len - 3) (c - 3)) w := by
 rw [run_sliceAt_slice (h := by rw [Tryd.underlying33]; kernel_rfl)]
 exact slice_from3V h3 hc w
end Go.Proofs.YtebbpcgiacckfaaDoor
