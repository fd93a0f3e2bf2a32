/- Patterns built out of patterns; equal captures. -/
import Derived.Test.YtdjbfneniohaaaaPPl
import Derived.Deep.RegionHeld3
namespace Go.Proofs.Ytdjbfneniohaaaa
set_option linter.unusedVariables false
set_option linter.unusedSimpArgs false
set_option maxRecDepth 100000
open Go.RowKit
theorem Row.pat1 {w : World} {b : Nat} {p : TPattern} {v0 v1 v2 v3 v4 v5 : Value} (hl : b < w.heap.size) (hv : Dat.HoldVals w (fun _ => True) p.D [v0, v1, v2, v3, v4, v5])
  (c0 : w.cell? ⟨b, 0, none⟩ = some v0) (c1 : w.cell? ⟨b, 1, none⟩ = some v1) (c2 : w.cell? ⟨b, 2, none⟩ = some v2) (c3 : w.cell? ⟨b, 3, none⟩ = some v3) (c4 : w.cell? ⟨b, 4, none⟩ = some v4) (c5 : w.cell? ⟨b, 5, none⟩ = some v5) : Row w (fun _ => True) 6 (some ⟨b, 0, none⟩) 1 ([p].map TPattern.D) := by
 have hn := hv.length
 refine ⟨by simp, by unfold maxLen; omega, fun _ => ⟨b, 0, rfl, trivial, hl, ?_⟩⟩
 simp only [List.map_cons, List.map_nil, Dat.HoldRows]
 exact ⟨Dat.HoldCells.of_vals hv (cells_of6 c0 c1 c2 c3 c4 c5), by simpa using hn.symm, trivial⟩
theorem Row.pat2 {w : World} {b : Nat} {p q : TPattern} {v0 v1 v2 v3 v4 v5 u0 u1 u2 u3 u4 u5 : Value} (hl : b < w.heap.size) (hv : Dat.HoldVals w (fun _ => True) p.D [v0, v1, v2, v3, v4, v5]) (hu : Dat.HoldVals w (fun _ => True) q.D [u0, u1, u2, u3, u4, u5])
  (c0 : w.cell? ⟨b, 0, none⟩ = some v0) (c1 : w.cell? ⟨b, 1, none⟩ = some v1) (c2 : w.cell? ⟨b, 2, none⟩ = some v2) (c3 : w.cell? ⟨b, 3, none⟩ = some v3) (c4 : w.cell? ⟨b, 4, none⟩ = some v4) (c5 : w.cell? ⟨b, 5, none⟩ = some v5)
  (d0 : w.cell? ⟨b, 6, none⟩ = some u0) (d1 : w.cell? ⟨b, 7, none⟩ = some u1) (d2 : w.cell? ⟨b, 8, none⟩ = some u2) (d3 : w.cell? ⟨b, 9, none⟩ = some u3) (d4 : w.cell? ⟨b, 10, none⟩ = some u4) (d5 : w.cell? ⟨b, 11, none⟩ = some u5) : Row w (fun _ => True) 6 (some ⟨b, 0, none⟩) 2 ([p, q].map TPattern.D) := by
 have hn := hv.length
 have hm := hu.length
 refine ⟨by simp, by unfold maxLen; omega, fun _ => ⟨b, 0, rfl, trivial, hl, ?_⟩⟩
 simp only [List.map_cons, List.map_nil, Dat.HoldRows]
 exact ⟨Dat.HoldCells.of_vals hv (cells_of6 c0 c1 c2 c3 c4 c5), by simpa using hn.symm, Dat.HoldCells.of_vals hu (cells_of6 d0 d1 d2 d3 d4 d5), by simpa using hm.symm, trivial⟩
set_option maxHeartbeats 1000000 in
theorem sameCaptures_any (xs : List TCapture) (A B : Option Addr) (c d : Nat) (w : World) (hA : Row w (fun _ => True) 3 A c (xs.map TCapture.D)) (hB : Row w (fun _ => True) 3 B d (xs.map TCapture.D)) :
  Calls Try.prog 11 #[.slice A xs.length c, .slice B xs.length d] w fun e w' => e = .returned (.bool true) ∧ Bel w w' := by
 have HA := hide hA
 have HB := hide hB
 have hl1 := HA.out.1
 have hm1 := HA.out.2.1
 have hl2 := HB.out.1
 have hm2 := HB.out.2.1
 simp only [List.length_map] at hl1 hl2
 unfold maxLen at hm1 hm2
 clear hA hB
 have hne : (xs.length != xs.length) = false := by simp
 have hne2 : ((xs.length : Int) != (xs.length : Int)) = false := by simp
 go_enter Try.func11, Try.ntmps11
 go_wp2_with (fail)
 go_loopw [5] (fun iv wr => ∃ i : Nat, iv = .int .i64 i ∧ i ≤ xs.length ∧ Hid (Bel w wr)) (fun iv _ => xs.length - (intOf iv).toNat)
 case atStart => exact ⟨0, rfl, Nat.zero_le _, hide bl⟩
 case round =>
  obtain ⟨i, rfl, hi, HBR⟩ := hrel
  have hbw := HBR.out
  by_cases h : i < xs.length
  ·
   skip
   have hdc : decide ((i : Int) < (xs.length : Int)) = true := by simp; omega
   (obtain ⟨b1, o1, x1_0, x1_1, x1_2, hA1, hS1, hl1, hx1, hv1, g1_0, g1_1, g1_2, c1_0, c1_1, c1_2⟩ := TCapture.at HA.out i h; subst hA1; have HV1 := hide (Dat.HoldVals.bel hbw hv1); have hh1 := hbw.box b1 hl1; have hw1 := Nat.lt_of_lt_of_le hl1 (Bel.size hbw); replace c1_0 := (hh1 _).trans c1_0; replace c1_1 := (hh1 _).trans c1_1; replace c1_2 := (hh1 _).trans c1_2; have HX1 := hide hx1; clear hh1 hv1 hx1 hS1)
   (obtain ⟨b2, o2, x2_0, x2_1, x2_2, hA2, hS2, hl2, hx2, hv2, g2_0, g2_1, g2_2, c2_0, c2_1, c2_2⟩ := TCapture.at HB.out i h; subst hA2; have HV2 := hide (Dat.HoldVals.bel hbw hv2); have hh2 := hbw.box b2 hl2; have hw2 := Nat.lt_of_lt_of_le hl2 (Bel.size hbw); replace c2_0 := (hh2 _).trans c2_0; replace c2_1 := (hh2 _).trans c2_1; replace c2_2 := (hh2 _).trans c2_2; have HX2 := hide hx2; clear hh2 hv2 hx2 hS2)
   have e12 := HX1.out.symm.trans HX2.out
   injection e12 with q0 q1 q2
   subst q0 q1 q2
   have hi0 : (0 : Int) ≤ (i : Int) := by omega
   have hi1 : (i : Int) < (xs.length : Int) := by omega
   go_upto_region 6 with (fail)
   refine wp_region_held_drew (S := fun w' => w'.cell? ⟨b1, o1 + i * 3, none⟩ = some (.int .i64 x1_0) ∧ w'.cell? ⟨b1, o1 + i * 3 + 1, none⟩ = some (.int .i64 x1_1) ∧ w'.cell? ⟨b1, o1 + i * 3 + 2, none⟩ = some (.int .i64 x1_2) ∧ w'.cell? ⟨b2, o2 + i * 3, none⟩ = some (.int .i64 x1_0) ∧ w'.cell? ⟨b2, o2 + i * 3 + 1, none⟩ = some (.int .i64 x1_1) ∧ w'.cell? ⟨b2, o2 + i * 3 + 2, none⟩ = some (.int .i64 x1_2)) (by kernel_rfl) ?_ (fun hHeld => ?_)
   ·
    exact ⟨c1_0, c1_1, c1_2, c2_0, c2_1, c2_2⟩
   refine tkI 0 ?_
   refine tkI 1 ?_
   refine tkI 2 ?_
   refine tkI 3 ?_
   refine tkI 4 ?_
   refine tkI 5 ?_
   refine tkI 6 ?_
   refine tkI 7 ?_
   refine tkI 8 ?_
   refine wpAnyH_done (by kernel_rfl) ?_ _
   clear hHeld
   go_wp2_with (fail)
   all_goals go_roundw
   case rel => exact ⟨i + 1, by go_num, by omega, hide (Bel.trans HBR.out bl)⟩
   case measure => simp [intOf]; omega
  ·
   skip
   have hdc : decide ((i : Int) < (xs.length : Int)) = false := by simp; omega
   go_wp2_with (fail)
   all_goals
    go_returns
    exact ⟨rfl, Bel.trans HBR.out bl⟩
set_option maxHeartbeats 2000000 in
theorem arb_world {w W : World} {p : TPattern} {v0 v1 v2 v3 v4 v5 : Value} (hv : Dat.HoldVals w (fun _ => True) p.D [v0, v1, v2, v3, v4, v5]) (hW : (((((w.alloc (.cells #[v0, v1, v2, v3, v4, v5] 28)).alloc (.cells #[.int .i64 13, .string ⟨#[]⟩, .int .i64 0, .int .i64 0, .int .i64 0, .slice (some ⟨w.heap.size, 0, none⟩) 1 1] 28)).alloc (.cells #[v0, v1, v2, v3, v4, v5, .int .i64 13, .string ⟨#[]⟩, .int .i64 0, .int .i64 0, .int .i64 0, .slice (some ⟨w.heap.size, 0, none⟩) 1 1] 28)).alloc (.cells #[.int .i64 22, .string ⟨#[]⟩, .int .i64 0, .int .i64 0, .int .i64 0, .slice none 0 0, .int .i64 14, .string ⟨#[]⟩, .int .i64 0, .int .i64 0, .int .i64 0, .slice (some ⟨w.heap.size + 1 + 1, 0, none⟩) 2 2] 28)).alloc (.cells #[.int .i64 15, .string ⟨#[]⟩, .int .i64 0, .int .i64 0, .int .i64 0, .slice (some ⟨w.heap.size + 1 + 1 + 1, 0, none⟩) 2 2] 28)) = W) :
  Bel w W ∧ PB W (w.heap.size + 1) (.int .i64 13) (.string ⟨#[]⟩) (.int .i64 0) (.int .i64 0) (.int .i64 0) (.slice (some ⟨w.heap.size, 0, none⟩) 1 1) ∧ PB W (w.heap.size + 1 + 1 + 1 + 1) (.int .i64 15) (.string ⟨#[]⟩) (.int .i64 0) (.int .i64 0) (.int .i64 0) (.slice (some ⟨w.heap.size + 1 + 1 + 1, 0, none⟩) 2 2) ∧ Dat.HoldVals W (fun _ => True) (TPattern.mk 13 ⟨#[]⟩ 0 0 0 [p]).D [.int .i64 13, .string ⟨#[]⟩, .int .i64 0, .int .i64 0, .int .i64 0, .slice (some ⟨w.heap.size, 0, none⟩) 1 1] ∧ Dat.HoldVals W (fun _ => True) (TPattern.mk 15 ⟨#[]⟩ 0 0 0 [(TPattern.mk 22 ⟨#[]⟩ 0 0 0 []), (TPattern.mk 14 ⟨#[]⟩ 0 0 0 [p, (TPattern.mk 13 ⟨#[]⟩ 0 0 0 [p])])]).D [.int .i64 15, .string ⟨#[]⟩, .int .i64 0, .int .i64 0, .int .i64 0, .slice (some ⟨w.heap.size + 1 + 1 + 1, 0, none⟩) 2 2] := by
 have hb : Bel w W := by rw [← hW]; exact bl
 have hz : W.heap.size = w.heap.size + 1 + 1 + 1 + 1 + 1 := by rw [← hW]; simp
 have hvp := hv.bel hb
 have a0 : W.cell? ⟨w.heap.size, 0, none⟩ = some v0 := by rw [← hW]; simp [go_sem]
 have a1 : W.cell? ⟨w.heap.size, 1, none⟩ = some v1 := by rw [← hW]; simp [go_sem]
 have a2 : W.cell? ⟨w.heap.size, 2, none⟩ = some v2 := by rw [← hW]; simp [go_sem]
 have a3 : W.cell? ⟨w.heap.size, 3, none⟩ = some v3 := by rw [← hW]; simp [go_sem]
 have a4 : W.cell? ⟨w.heap.size, 4, none⟩ = some v4 := by rw [← hW]; simp [go_sem]
 have a5 : W.cell? ⟨w.heap.size, 5, none⟩ = some v5 := by rw [← hW]; simp [go_sem]
 have b0 : W.cell? ⟨w.heap.size + 1, 0, none⟩ = some (.int .i64 13) := by rw [← hW]; simp [go_sem]
 have b1 : W.cell? ⟨w.heap.size + 1, 1, none⟩ = some (.string ⟨#[]⟩) := by rw [← hW]; simp [go_sem]
 have b2 : W.cell? ⟨w.heap.size + 1, 2, none⟩ = some (.int .i64 0) := by rw [← hW]; simp [go_sem]
 have b3 : W.cell? ⟨w.heap.size + 1, 3, none⟩ = some (.int .i64 0) := by rw [← hW]; simp [go_sem]
 have b4 : W.cell? ⟨w.heap.size + 1, 4, none⟩ = some (.int .i64 0) := by rw [← hW]; simp [go_sem]
 have b5 : W.cell? ⟨w.heap.size + 1, 5, none⟩ = some (.slice (some ⟨w.heap.size, 0, none⟩) 1 1) := by rw [← hW]; simp [go_sem]
 have c0 : W.cell? ⟨w.heap.size + 1 + 1, 0, none⟩ = some v0 := by rw [← hW]; simp [go_sem]
 have c1 : W.cell? ⟨w.heap.size + 1 + 1, 1, none⟩ = some v1 := by rw [← hW]; simp [go_sem]
 have c2 : W.cell? ⟨w.heap.size + 1 + 1, 2, none⟩ = some v2 := by rw [← hW]; simp [go_sem]
 have c3 : W.cell? ⟨w.heap.size + 1 + 1, 3, none⟩ = some v3 := by rw [← hW]; simp [go_sem]
 have c4 : W.cell? ⟨w.heap.size + 1 + 1, 4, none⟩ = some v4 := by rw [← hW]; simp [go_sem]
 have c5 : W.cell? ⟨w.heap.size + 1 + 1, 5, none⟩ = some v5 := by rw [← hW]; simp [go_sem]
 have c6 : W.cell? ⟨w.heap.size + 1 + 1, 6, none⟩ = some (.int .i64 13) := by rw [← hW]; simp [go_sem]
 have c7 : W.cell? ⟨w.heap.size + 1 + 1, 7, none⟩ = some (.string ⟨#[]⟩) := by rw [← hW]; simp [go_sem]
 have c8 : W.cell? ⟨w.heap.size + 1 + 1, 8, none⟩ = some (.int .i64 0) := by rw [← hW]; simp [go_sem]
 have c9 : W.cell? ⟨w.heap.size + 1 + 1, 9, none⟩ = some (.int .i64 0) := by rw [← hW]; simp [go_sem]
 have c10 : W.cell? ⟨w.heap.size + 1 + 1, 10, none⟩ = some (.int .i64 0) := by rw [← hW]; simp [go_sem]
 have c11 : W.cell? ⟨w.heap.size + 1 + 1, 11, none⟩ = some (.slice (some ⟨w.heap.size, 0, none⟩) 1 1) := by rw [← hW]; simp [go_sem]
 have d0 : W.cell? ⟨w.heap.size + 1 + 1 + 1, 0, none⟩ = some (.int .i64 22) := by rw [← hW]; simp [go_sem]
 have d1 : W.cell? ⟨w.heap.size + 1 + 1 + 1, 1, none⟩ = some (.string ⟨#[]⟩) := by rw [← hW]; simp [go_sem]
 have d2 : W.cell? ⟨w.heap.size + 1 + 1 + 1, 2, none⟩ = some (.int .i64 0) := by rw [← hW]; simp [go_sem]
 have d3 : W.cell? ⟨w.heap.size + 1 + 1 + 1, 3, none⟩ = some (.int .i64 0) := by rw [← hW]; simp [go_sem]
 have d4 : W.cell? ⟨w.heap.size + 1 + 1 + 1, 4, none⟩ = some (.int .i64 0) := by rw [← hW]; simp [go_sem]
 have d5 : W.cell? ⟨w.heap.size + 1 + 1 + 1, 5, none⟩ = some (.slice none 0 0) := by rw [← hW]; simp [go_sem]
 have d6 : W.cell? ⟨w.heap.size + 1 + 1 + 1, 6, none⟩ = some (.int .i64 14) := by rw [← hW]; simp [go_sem]
 have d7 : W.cell? ⟨w.heap.size + 1 + 1 + 1, 7, none⟩ = some (.string ⟨#[]⟩) := by rw [← hW]; simp [go_sem]
 have d8 : W.cell? ⟨w.heap.size + 1 + 1 + 1, 8, none⟩ = some (.int .i64 0) := by rw [← hW]; simp [go_sem]
 have d9 : W.cell? ⟨w.heap.size + 1 + 1 + 1, 9, none⟩ = some (.int .i64 0) := by rw [← hW]; simp [go_sem]
 have d10 : W.cell? ⟨w.heap.size + 1 + 1 + 1, 10, none⟩ = some (.int .i64 0) := by rw [← hW]; simp [go_sem]
 have d11 : W.cell? ⟨w.heap.size + 1 + 1 + 1, 11, none⟩ = some (.slice (some ⟨w.heap.size + 1 + 1, 0, none⟩) 2 2) := by rw [← hW]; simp [go_sem]
 have e0 : W.cell? ⟨w.heap.size + 1 + 1 + 1 + 1, 0, none⟩ = some (.int .i64 15) := by rw [← hW]; simp [go_sem]
 have e1 : W.cell? ⟨w.heap.size + 1 + 1 + 1 + 1, 1, none⟩ = some (.string ⟨#[]⟩) := by rw [← hW]; simp [go_sem]
 have e2 : W.cell? ⟨w.heap.size + 1 + 1 + 1 + 1, 2, none⟩ = some (.int .i64 0) := by rw [← hW]; simp [go_sem]
 have e3 : W.cell? ⟨w.heap.size + 1 + 1 + 1 + 1, 3, none⟩ = some (.int .i64 0) := by rw [← hW]; simp [go_sem]
 have e4 : W.cell? ⟨w.heap.size + 1 + 1 + 1 + 1, 4, none⟩ = some (.int .i64 0) := by rw [← hW]; simp [go_sem]
 have e5 : W.cell? ⟨w.heap.size + 1 + 1 + 1 + 1, 5, none⟩ = some (.slice (some ⟨w.heap.size + 1 + 1 + 1, 0, none⟩) 2 2) := by rw [← hW]; simp [go_sem]
 have ez : (⟨#[]⟩ : ByteArray).size ≤ maxLen := by decide
 have iz : ∀ k : Int, 0 ≤ k → k ≤ 100 → InI k := fun k h1 h2 => by unfold InI; omega
 have h0 := iz 0 (by omega) (by omega)
 have r1 := Row.pat1 (by omega) hvp a0 a1 a2 a3 a4 a5
 have hm := TPattern.vals_mk (x1 := ⟨#[]⟩) (x5 := [p]) (iz 13 (by omega) (by omega)) ez h0 h0 h0 r1
 have r2 := Row.pat2 (by omega) hvp hm c0 c1 c2 c3 c4 c5 c6 c7 c8 c9 c10 c11
 have hc := TPattern.vals_mk (x1 := ⟨#[]⟩) (x5 := [p, (TPattern.mk 13 ⟨#[]⟩ 0 0 0 [p])]) (iz 14 (by omega) (by omega)) ez h0 h0 h0 r2
 have he := TPattern.vals_mk (w := W) (S := fun _ => True) (x1 := ⟨#[]⟩) (x5 := []) (Ax5 := none) (cx5 := 0) (iz 22 (by omega) (by omega)) ez h0 h0 h0 ⟨by simp, by unfold maxLen; omega, fun h => absurd rfl h⟩
 have r3 := Row.pat2 (by omega) he hc d0 d1 d2 d3 d4 d5 d6 d7 d8 d9 d10 d11
 have ho := TPattern.vals_mk (x1 := ⟨#[]⟩) (x5 := [(TPattern.mk 22 ⟨#[]⟩ 0 0 0 []), (TPattern.mk 14 ⟨#[]⟩ 0 0 0 [p, (TPattern.mk 13 ⟨#[]⟩ 0 0 0 [p])])]) (iz 15 (by omega) (by omega)) ez h0 h0 h0 r3
 exact ⟨hb, ⟨by omega, (fun o => by rw [← hW]; simp [go_sem]), b0, b1, b2, b3, b4, b5⟩, ⟨by omega, (fun o => by rw [← hW]; simp [go_sem]), e0, e1, e2, e3, e4, e5⟩, hm, ho⟩
end Go.Proofs.Ytdjbfneniohaaaa
namespace Go.Proofs.Ytdjbfneniohaaaa
set_option linter.unusedVariables false
set_option linter.unusedSimpArgs false
set_option maxRecDepth 100000
open Go.RowKit
set_option maxRecDepth 8000 in
set_option maxHeartbeats 4000000 in
theorem FnArbno_walk (A : Option Addr) (n cap : Nat) (w : World) (hB : ∀ c, w.heap.size ≤ c → n ≤ 1048576 → Bts w c A n) :
    Calls Try.prog 3 #[.slice A n cap] w fun e w' => e = .returned (.bool true) ∧ Bel w w' := by
  have HB := hide hB
  clear hB
  by_cases hn : n ≤ 1048576
  case neg =>
    have hd := hide (show decide ((1048576 : Int) < (n : Int)) = true by simp; omega)
    go_enter Try.func3, Try.ntmps3
    go_wp2_with (go_at_call 7; refine (lawBig_any A n cap _).mono ?_; rintro e w1 ⟨rfl, rfl⟩; rw [hd.out])
    all_goals
      go_returns
      exact ⟨rfl, bl⟩
  have hd := hide (show decide ((1048576 : Int) < (n : Int)) = false by simp; omega)
  go_enter Try.func3, Try.ntmps3
  go_upto_region 4 with (first
      | (go_at_call 7; refine (lawBig_any A n cap _).mono ?_; rintro e w1 ⟨rfl, rfl⟩; rw [hd.out])
      | (go_at_call 8; refine (drawEndingsOf_any A n cap _ hn (fun c h => HB.out c h hn)).mono ?_; rintro e w1 ⟨ds, v, vs, L, M, ⟨x0, x1, x2, x3, x4, x5⟩, s, a, rfl, hO, hown, -, -, hl, hcs, hcn, hs, ha1, ha2, hb1⟩; obtain ⟨Av, cv, rfl, hrow⟩ := hO.row (S := fun _ => True) (fun _ _ => trivial); rw [List.length_map]; obtain ⟨A5, c5, L5, rfl, rfl, g0, g1, g2, g3, g4, -⟩ := TPattern.vals_own hown; have HROW := hide hrow; have HVAL := hide (Dat.OwnVals.vals (S := fun _ => True) (fun _ _ => trivial) hown); have Hb1 := hide hb1; have HCS := hide (show ∀ (k : Nat) (h : k < ds.length), ds[k].cnt ≤ 2000000 from fun k h => by have := hcs _ (List.getElem_mem h); omega); have HCN := hide (show TPattern.cnt (TPattern.mk x0 x1 x2 x3 x4 x5) ≤ 2000000 by omega); have hcn9 := hide hcn; have HCS9 := hide hcs; clear hO hown hrow hb1 hcs hcn))
  refine wp_namedF fun w2 hw2 => ?_
  have D2 := hide (show DrE w w2 Av cv ds w1.heap.size x0 x1 x2 x3 x4 A5 c5 x5 from (by
    have hb12 : Bel w1 w2 := by rw [← hw2]; exact bl
    exact ⟨Hb1.out.trans hb12, HROW.out.bel hb12, HVAL.out.bel hb12, by rw [← hw2]; exact PB.new _ _⟩))
  clear hw2 HROW HVAL Hb1
  generalize w1.heap.size = b at D2 ⊢
  clear w1
  have pb := D2.out.box; obtain ⟨hl2, f2, k20, k21, k22, k23, k24, k25⟩ := pb
  have HS := hide (show s.size ≤ maxLen by unfold maxLen; omega)
  have HA := hide (show InI a by unfold InI; omega)
  obtain ⟨rA, hrA⟩ : ∃ r, endT ds (TPattern.mk 13 ⟨#[]⟩ 0 0 0 [(TPattern.mk x0 x1 x2 x3 x4 x5)]) s a = r := ⟨_, rfl⟩
  obtain ⟨rB, hrB⟩ : ∃ r, endT ds (TPattern.mk 15 ⟨#[]⟩ 0 0 0 [(TPattern.mk 22 ⟨#[]⟩ 0 0 0 []), (TPattern.mk 14 ⟨#[]⟩ 0 0 0 [(TPattern.mk x0 x1 x2 x3 x4 x5), (TPattern.mk 13 ⟨#[]⟩ 0 0 0 [(TPattern.mk x0 x1 x2 x3 x4 x5)])])]) s a = r := ⟨_, rfl⟩
  obtain ⟨rC, hrC⟩ : ∃ r, endT ds (TPattern.mk x0 x1 x2 x3 x4 x5) s a = r := ⟨_, rfl⟩
  obtain ⟨la, sa, okA⟩ := rA
  obtain ⟨lb, sb, okB⟩ := rB
  obtain ⟨lc, sc, okC⟩ := rC
  have HEA := hide hrA
  have HEB := hide hrB
  have HEC := hide hrC
  clear hrA hrB hrC
  have hok : (okA != okA) = false := by simp
  have hcn8 := hcn9.out
  have HCM := hide (show TPattern.cnt (TPattern.mk 13 ⟨#[]⟩ 0 0 0 [(TPattern.mk x0 x1 x2 x3 x4 x5)]) ≤ 2000000 by simp only [TPattern.cnt, TPattern.cnts] at hcn8 ⊢; omega)
  have HCO := hide (show TPattern.cnt (TPattern.mk 15 ⟨#[]⟩ 0 0 0 [(TPattern.mk 22 ⟨#[]⟩ 0 0 0 []), (TPattern.mk 14 ⟨#[]⟩ 0 0 0 [(TPattern.mk x0 x1 x2 x3 x4 x5), (TPattern.mk 13 ⟨#[]⟩ 0 0 0 [(TPattern.mk x0 x1 x2 x3 x4 x5)])])]) ≤ 2000000 by simp only [TPattern.cnt, TPattern.cnts] at hcn8 ⊢; omega)
  clear hcn8
  go_upto_region 6 with (fail)
  refine wp_namedF fun w3 hw3 => ?_
  obtain ⟨hb23, BM, BO, hvm, hvo⟩ := arb_world D2.out.vals hw3
  have D3 := hide (D2.out.on hb23)
  have HBM := hide BM
  have HBO := hide BO
  have HVM := hide hvm
  have HVO := hide hvo
  clear hw3 hb23 BM BO hvm hvo hl2 f2 k20 k21 k22 k23 k24 k25 D2
  have pb := HBM.out; obtain ⟨hl3, f3, k30, k31, k32, k33, k34, k35⟩ := pb
  go_upto_region 7 with (go_at_call 9; refine (implEnds_any ds (TPattern.mk 13 ⟨#[]⟩ 0 0 0 [(TPattern.mk x0 x1 x2 x3 x4 x5)]) s a _ _ _ _ _ _ D3.out.row HVM.out HS.out HA.out HCM.out HCS.out).mono ?_; rw [HEA.out]; intro e w4 hm; obtain ⟨B4, d4, rfl, hr4, hb4⟩ := hm.row; clear hm; have HR4 := hide hr4; have HB34 := hide (show Bel w3 w4 from hb4); clear hr4 hb4)
  clear hl3 f3 k30 k31 k32 k33 k34 k35
  have pb := HBO.out.on HB34.out; obtain ⟨hl4, f4, k40, k41, k42, k43, k44, k45⟩ := pb
  go_upto_region 8 with (go_at_call 9; refine (implEnds_any ds (TPattern.mk 15 ⟨#[]⟩ 0 0 0 [(TPattern.mk 22 ⟨#[]⟩ 0 0 0 []), (TPattern.mk 14 ⟨#[]⟩ 0 0 0 [(TPattern.mk x0 x1 x2 x3 x4 x5), (TPattern.mk 13 ⟨#[]⟩ 0 0 0 [(TPattern.mk x0 x1 x2 x3 x4 x5)])])]) s a _ _ _ _ _ _ (Row.bel HB34.out D3.out.row) (Dat.HoldVals.bel HB34.out HVO.out) HS.out HA.out HCO.out HCS.out).mono ?_; rw [HEB.out]; intro e w5 hm; obtain ⟨B5, d5, rfl, hr5, hb5⟩ := hm.row; clear hm; have HR5 := hide hr5; have HB35 := hide (show Bel w3 w5 from HB34.out.trans hb5); have HB45 := hide hb5; clear hr5 hb5)
  clear hl4 f4 k40 k41 k42 k43 k44 k45
  have pb := HBM.out.on HB35.out; obtain ⟨hl5, f5, k50, k51, k52, k53, k54, k55⟩ := pb
  go_upto_region 9 with (go_at_call 10; refine (specEnds_any ds (TPattern.mk 13 ⟨#[]⟩ 0 0 0 [(TPattern.mk x0 x1 x2 x3 x4 x5)]) s a _ _ _ _ _ _ (Row.bel HB35.out D3.out.row) (Dat.HoldVals.bel HB35.out HVM.out) HS.out HA.out HCM.out HCS.out).mono ?_; rw [HEA.out]; intro e w6 hm; obtain ⟨B6, d6, rfl, hr6, hb6⟩ := hm.row; clear hm; have HR6 := hide hr6; have HB36 := hide (show Bel w3 w6 from HB35.out.trans hb6); have HB56 := hide hb6; clear hr6 hb6)
  clear hl5 f5 k50 k51 k52 k53 k54 k55
  have pb := D3.out.box.on HB36.out; obtain ⟨hl6, f6, k60, k61, k62, k63, k64, k65⟩ := pb
  go_upto_region 10 with (go_at_call 10; refine (specEnds_any ds (TPattern.mk x0 x1 x2 x3 x4 x5) s a _ _ _ _ _ _ (Row.bel HB36.out D3.out.row) (Dat.HoldVals.bel HB36.out D3.out.vals) HS.out HA.out HCN.out HCS.out).mono ?_; rw [HEC.out]; intro e w7 hm; obtain ⟨B7, d7, rfl, hr7, hb7⟩ := hm.row; clear hm; have HR7 := hide hr7; have HB37 := hide (show Bel w3 w7 from HB36.out.trans hb7); have HB57 := hide (HB56.out.trans hb7); have HB47 := hide (HB45.out.trans HB57.out); clear hr7 hb7)
  clear hl6 f6 k60 k61 k62 k63 k64 k65
  have h7l := HR7.out.1
  have h7m := HR7.out.2.1
  simp only [List.length_map] at h7l
  unfold maxLen at h7m
  go_wp2_with (fail)
  go_loopw [20, 21] (fun sv iv wr => ∃ (i : Nat) (q : Bool), sv = .bool q ∧ iv = .int .i64 i ∧ i ≤ lc.length ∧ Hid (q = true → okC = true ∧ ∀ (k : Nat) (hk : k < lc.length), k < i → a < lc[k].pos) ∧ Hid (Bel w7 wr)) (fun _ iv _ => lc.length - (intOf iv).toNat)
  case atStart => exact ⟨0, okC, rfl, rfl, Nat.zero_le _, hide (fun h => ⟨h, fun k hk h0 => absurd h0 (by omega)⟩), hide bl⟩
  case round =>
    obtain ⟨i, q, rfl, rfl, hi, HQ, HBR⟩ := hrel
    by_cases h : i < lc.length
    · skip
      have hdc : decide ((i : Int) < (lc.length : Int)) = true := by simp; omega
      have hi0 : (0 : Int) ≤ (i : Int) := by omega
      have hi1 : (i : Int) < (lc.length : Int) := by omega
      have hbwr := HBR.out
      (obtain ⟨b1, o1, x1_0, x1_1, A1_1, C1_1, hA1, hS1, hl1, hx1, hv1, g1_0, g1_1, c1_0, c1_1⟩ := TEnding.at HR7.out i h; subst hA1; have HV1 := hide (Dat.HoldVals.bel hbwr hv1); have hh1 := hbwr.box b1 hl1; have hw1 := Nat.lt_of_lt_of_le hl1 (Bel.size hbwr); replace c1_0 := (hh1 _).trans c1_0; replace c1_1 := (hh1 _).trans c1_1; have HX1 := hide hx1; have GR1_1 := hide g1_1; clear hh1 hv1 hx1 hS1 g1_1)
      cases q
      · skip
        go_wp2_with (fail)
        all_goals go_roundw
        case rel => exact ⟨i + 1, false, rfl, by go_num, by omega, hide (fun h => by cases h), hide (Bel.trans HBR.out bl)⟩
        case measure => simp [intOf]; omega
      · skip
        by_cases hax : a < x1_0
        · skip
          have hda : decide (a < x1_0) = true := decide_eq_true hax
          have HQ2 := hide (show okC = true ∧ ∀ (k : Nat) (hk : k < lc.length), k < i + 1 → a < lc[k].pos from ⟨(HQ.out rfl).1, fun k hk hki => by
            by_cases e : k = i
            · subst e
              have hx := HX1.out
              rw [hx]
              exact hax
            · exact (HQ.out rfl).2 k hk (by omega)⟩)
          go_wp2_with (fail)
          all_goals go_roundw
          case rel => exact ⟨i + 1, true, rfl, by go_num, by omega, hide (fun _ => HQ2.out), hide (Bel.trans HBR.out bl)⟩
          case measure => simp [intOf]; omega
        · skip
          have hda : decide (a < x1_0) = false := decide_eq_false hax
          go_wp2_with (fail)
          all_goals go_roundw
          case rel => exact ⟨i + 1, false, rfl, by go_num, by omega, hide (fun h => by cases h), hide (Bel.trans HBR.out bl)⟩
          case measure => simp [intOf]; omega
    · skip
      have hdc : decide ((i : Int) < (lc.length : Int)) = false := by simp; omega
      by_cases hall : okA = true ∧ okB = true ∧ q = true
      case neg =>
        cases okA <;> cases okB <;> cases q
        all_goals first
          | exact absurd ⟨rfl, rfl, rfl⟩ hall
          | (go_wp2_with (fail)
             all_goals
               go_returns
               exact ⟨rfl, Bel.trans D3.out.bel (Bel.trans HB37.out (Bel.trans HBR.out bl))⟩)
      obtain ⟨rfl, rfl, rfl⟩ := hall
      obtain ⟨rfl, hgt⟩ := HQ.out rfl
      obtain ⟨rfl, rfl⟩ := arbno_law (t5 := ByteArray.empty) HEA.out HEB.out HEC.out (fun x hx => by
        obtain ⟨k, hk, rfl⟩ := List.getElem_of_mem hx
        exact hgt k hk (by omega))
      obtain ⟨wo, rfl⟩ : ∃ wo, wo = wr := ⟨_, rfl⟩
      have HRA := hide (Row.bel (Bel.trans HB47.out HBR.out) HR4.out)
      have HRB := hide (Row.bel (Bel.trans HB57.out HBR.out) HR5.out)
      have h4l := HRA.out.1
      have h4m := HRA.out.2.1
      have h5l := HRB.out.1
      have h5m := HRB.out.2.1
      simp only [List.length_map] at h4l h5l
      unfold maxLen at h4m h5m
      have hnl : ((la.length : Int) != (la.length : Int)) = false := by simp
      have hns : (sa != sa) = false := by simp
      go_wp2_with (fail)
      go_loopw [22] (fun iv wr => ∃ j : Nat, iv = .int .i64 j ∧ j ≤ la.length ∧ Hid (Bel wo wr)) (fun iv _ => la.length - (intOf iv).toNat)
      case atStart => exact ⟨0, rfl, Nat.zero_le _, hide (Bel.refl _)⟩
      case round =>
        obtain ⟨j, rfl, hj, HBQ⟩ := hrel
        by_cases h2 : j < la.length
        · skip
          have hdj : decide ((j : Int) < (la.length : Int)) = true := by simp; omega
          have hj0 : (0 : Int) ≤ (j : Int) := by omega
          have hj1 : (j : Int) < (la.length : Int) := by omega
          have hbq := HBQ.out
          (obtain ⟨b1, o1, x1_0, x1_1, A1_1, C1_1, hA1, hS1, hl1, hx1, hv1, g1_0, g1_1, c1_0, c1_1⟩ := TEnding.at HRA.out j h2; subst hA1; have HV1 := hide (Dat.HoldVals.bel hbq hv1); have hh1 := hbq.box b1 hl1; have hw1 := Nat.lt_of_lt_of_le hl1 (Bel.size hbq); replace c1_0 := (hh1 _).trans c1_0; replace c1_1 := (hh1 _).trans c1_1; have HX1 := hide hx1; have GR1_1 := hide g1_1; clear hh1 hv1 hx1 hS1 g1_1)
          (obtain ⟨b2, o2, x2_0, x2_1, A2_1, C2_1, hA2, hS2, hl2, hx2, hv2, g2_0, g2_1, c2_0, c2_1⟩ := TEnding.at HRB.out j h2; subst hA2; have HV2 := hide (Dat.HoldVals.bel hbq hv2); have hh2 := hbq.box b2 hl2; have hw2 := Nat.lt_of_lt_of_le hl2 (Bel.size hbq); replace c2_0 := (hh2 _).trans c2_0; replace c2_1 := (hh2 _).trans c2_1; have HX2 := hide hx2; have GR2_1 := hide g2_1; clear hh2 hv2 hx2 hS2 g2_1)
          have e12 := HX1.out.symm.trans HX2.out
          injection e12 with q0 q1
          subst q0 q1
          have hnx : (x1_0 != x1_0) = false := by simp
          go_upto_region 23 with (fail)
          refine wp_region_held_drew (S := fun w' => w'.cell? ⟨b1, o1 + j * 2, none⟩ = some (.int .i64 x1_0) ∧ w'.cell? ⟨b1, o1 + j * 2 + 1, none⟩ = some (.slice A1_1 x1_1.length C1_1) ∧ w'.cell? ⟨b2, o2 + j * 2, none⟩ = some (.int .i64 x1_0) ∧ w'.cell? ⟨b2, o2 + j * 2 + 1, none⟩ = some (.slice A2_1 x1_1.length C2_1)) (by kernel_rfl) ?_ (fun hHeld => ?_)
          · exact ⟨c1_0, c1_1, c2_0, c2_1⟩
          refine tkI 0 ?_
          refine tkI 1 ?_
          refine tkI 2 ?_
          refine tkI 3 ?_
          refine tkI 4 ?_
          refine tkI 5 ?_
          refine tkI 6 ?_
          refine tkI 7 ?_
          refine tkI 8 ?_
          refine tkI 9 ?_
          refine tkI 10 ?_
          refine tkI 11 ?_
          refine tkI 12 ?_
          refine tkI 13 ?_
          refine tkI 14 ?_
          refine tkI 15 ?_
          refine tkI 16 ?_
          refine tkI 17 ?_
          refine tkI 18 ?_
          refine tkI 19 ?_
          refine tkI 20 ?_
          refine tkI 21 ?_
          refine wpAnyH_ready (rs := [22]) (by kernel_rfl) (by simp) ?_
          refine AllReadyH.cons (o := _) rfl (fun K hK => ?_) AllReadyH.nil
          go_simp
          clear hHeld
          go_at_call 11
          refine (sameCaptures_any x1_1 _ _ _ _ _ (Row.bel (Bel.trans hbq bl) GR1_1.out) (Row.bel (Bel.trans hbq bl) GR2_1.out)).mono ?_
          rintro e w9 ⟨rfl, hb9⟩
          refine hK.out _ _ ?_ (fun hHeld => ?_)
          · exact ⟨(hb9.box b1 hw1 _).trans c1_0, (hb9.box b1 hw1 _).trans c1_1, (hb9.box b2 hw2 _).trans c2_0, (hb9.box b2 hw2 _).trans c2_1⟩
          clear hK K
          (try simp only [Act.put, List.setIfInBounds_toArray, List.set_cons_zero, List.set_cons_succ, List.getElem_toArray, List.getElem_cons_zero, List.getElem_cons_succ])
          refine tkI 23 ?_
          refine tkI 24 ?_
          refine wpAnyH_done (by kernel_rfl) ?_ _
          clear hHeld
          go_wp2_with (fail)
          all_goals go_roundw
          case rel => exact ⟨j + 1, by go_num, by omega, hide (Bel.trans HBQ.out (Bel.trans (Bel.drew (Bel.refl _)) (Bel.trans hb9 bl)))⟩
          case measure => simp [intOf]; omega
        · skip
          have hdj : decide ((j : Int) < (la.length : Int)) = false := by simp; omega
          go_wp2_with (fail)
          all_goals
            go_returns
            exact ⟨rfl, Bel.trans D3.out.bel (Bel.trans HB37.out (Bel.trans HBR.out (Bel.trans HBQ.out bl)))⟩
end Go.Proofs.Ytdjbfneniohaaaa
