/- The names of a procedure: the reference. -/
import Derived.Test.YtdacpljinffnaaaDoorPYe
namespace Go.Proofs.YtdacpljinffnaaaDoor
set_option linter.unusedVariables false
set_option linter.unusedSimpArgs false
set_option maxRecDepth 100000
open Go.RowKit
set_option maxHeartbeats 8000000 in
theorem specLoc_of (hUnit : ∀ t, UnitC 15 t) : LocC 7 := by
 have HUN := hide hUnit
 clear hUnit
 intro R G P m hm S w us hsp hu hwt hval
 have HT := hide hsp
 have HU := hide hu
 have HW := hide hwt
 have HVAL := hide hval
 have HPP := hide (proc_parts (proc_ok hval hm))
 obtain ⟨A0, c0, A1, c1, A2, c2, rfl, -, -, g2⟩ := TUnit.vals hu
 have HRP := hide g2
 have hlp := g2.1
 have hcp := g2.2.1
 simp only [List.length_map] at hlp
 unfold maxLen at hcp
 clear hsp hu hwt hval g2
 obtain ⟨i0, hi0, iz0, iz1, iz2⟩ := info_parts infoStr
 have hbw : Bel w w := Bel.refl w
 (obtain ⟨b1, o1, x1_0, x1_1, x1_2, x1_3, x1_4, x1_5, x1_6, x1_7, x1_8, A1_1, C1_1, A1_2, C1_2, A1_7, C1_7, hA1, hS1, hl1, hx1, hv1, g1_0, g1_1, g1_2, g1_3, g1_4, g1_5, g1_6, g1_7, g1_8, c1_0, c1_1, c1_2, c1_3, c1_4, c1_5, c1_6, c1_7, c1_8⟩ := TProcedure.at HRP.out m hm; subst hA1; have HV1 := hide (Dat.HoldVals.bel hbw hv1); have hh1 := hbw.box b1 hl1; have hw1 := Nat.lt_of_lt_of_le hl1 (Bel.size hbw); replace c1_0 := (hh1 _).trans c1_0; replace c1_1 := (hh1 _).trans c1_1; replace c1_2 := (hh1 _).trans c1_2; replace c1_3 := (hh1 _).trans c1_3; replace c1_4 := (hh1 _).trans c1_4; replace c1_5 := (hh1 _).trans c1_5; replace c1_6 := (hh1 _).trans c1_6; replace c1_7 := (hh1 _).trans c1_7; replace c1_8 := (hh1 _).trans c1_8; have HX1 := hide hx1; have GR1_1 := hide g1_1; have GR1_2 := hide g1_2; have GR1_7 := hide g1_7; clear hh1 hv1 hx1 hS1 g1_1 g1_2 g1_7)
 have hne1 : ¬ b1 = w.heap.size := by omega
 have HQ := hide (show P[m].pars = x1_1 ∧ P[m].locs = x1_2 ∧ P[m].body = (TExpr.mk x1_3 x1_4 x1_5 x1_6 x1_7) by rw [HX1.out]; exact ⟨rfl, rfl, rfl⟩)
 have HP1 := hide (show x1_1.length ≤ 6 ∧ x1_2.length ≤ 8 ∧ (TExpr.mk x1_3 x1_4 x1_5 x1_6 x1_7).vld = true ∧ (TExpr.mk x1_3 x1_4 x1_5 x1_6 x1_7).cnt ≤ 600 ∧ x1_1.all nameB = true ∧ x1_2.all nameB = true by have h := HPP.out; rw [HQ.out.1, HQ.out.2.1, HQ.out.2.2] at h; exact h)
 have HLL := hide (show locL R G P P[m] = (TExpr.mk x1_3 x1_4 x1_5 x1_6 x1_7).col (outO R G P) (x1_1 ++ x1_2) by unfold locL; rw [HQ.out.1, HQ.out.2.1, HQ.out.2.2])
 have HVB := hide (TExpr.vals_mk g1_3 g1_4 g1_5 g1_6 GR1_7.out)
 have h61 := HP1.out.1
 have h82 := HP1.out.2.1
 have hmi : (0 : Int) ≤ (m : Int) := by omega
 have hmp : decide ((P.length : Int) ≤ (m : Int)) = false := by simp; omega
 have hmp2 : decide (P.length ≤ m) = false := by simp; omega
 have hm0 : decide ((m : Int) < 0) = false := by simp
 have hmlt : (m : Int) < (P.length : Int) := by omega
 have HSZ := hide (show ∀ x ∈ x1_1 ++ x1_2, x.size ≤ maxLen from fun x hx => name_size (by rcases List.mem_append.1 hx with h | h; exact List.all_eq_true.1 HP1.out.2.2.2.2.1 x h; exact List.all_eq_true.1 HP1.out.2.2.2.2.2 x h))
 unfold maxLen at g1_0 g1_4
 go_enter Tryd.func7, Tryd.ntmps7
 go_upto_region 4 with (go_at_call 15; refine (HUN.out (TUnit.mk R G P) S _ _ (HT.out.on bl) (Dat.HoldVals.bel bl HU.out) HW.out).mono ?_; rintro e w1 ⟨rfl, hb1⟩; rw [HVAL.out]; (have hz1 := hb1.sz; obtain ⟨hk1_0, hf1_0, hl1_0, hn1_0⟩ := hb1.lay (w.heap.size); obtain ⟨hk1_1, hf1_1, hl1_1, hn1_1⟩ := hb1.lay (b1)))
 have hb0 : Bel w (w1.alloc (.cells #[.string x1_0, .slice A1_1 x1_1.length C1_1, .slice A1_2 x1_2.length C1_2, .int .i64 x1_3, .string x1_4, .int .i64 x1_5, .int .i64 x1_6, .slice A1_7 x1_7.length C1_7, .int .i64 x1_8] 44)) := bl
 have hz0 := hb0.size
 have hlw : w.heap.size < w1.heap.size := by omega
 have HBX := hide (show (w1.alloc (.cells #[.string x1_0, .slice A1_1 x1_1.length C1_1, .slice A1_2 x1_2.length C1_2, .int .i64 x1_3, .string x1_4, .int .i64 x1_5, .int .i64 x1_6, .slice A1_7 x1_7.length C1_7, .int .i64 x1_8] 44)).heap[w1.heap.size]? = some (Obj.cells #[.string x1_0, .slice A1_1 x1_1.length C1_1, .slice A1_2 x1_2.length C1_2, .int .i64 x1_3, .string x1_4, .int .i64 x1_5, .int .i64 x1_6, .slice A1_7 x1_7.length C1_7, .int .i64 x1_8] 44) by have h := heap_alloc_new w1 (.cells #[.string x1_0, .slice A1_1 x1_1.length C1_1, .slice A1_2 x1_2.length C1_2, .int .i64 x1_3, .string x1_4, .int .i64 x1_5, .int .i64 x1_6, .slice A1_7 x1_7.length C1_7, .int .i64 x1_8] 44); exact h)
 have HUX := hide (show w1.heap[w.heap.size]? = some (Obj.cells #[.slice A0 R.length c0, .slice A1 G.length c1, .slice (some ⟨b1, o1, none⟩) P.length c2] 28) by rw [Below.block hb1 w.heap.size (by simp), heap_alloc_new])
 have HUX2 := hide (show (w1.alloc (.cells #[.string x1_0, .slice A1_1 x1_1.length C1_1, .slice A1_2 x1_2.length C1_2, .int .i64 x1_3, .string x1_4, .int .i64 x1_5, .int .i64 x1_6, .slice A1_7 x1_7.length C1_7, .int .i64 x1_8] 44)).heap[w.heap.size]? = some (Obj.cells #[.slice A0 R.length c0, .slice A1 G.length c1, .slice (some ⟨b1, o1, none⟩) P.length c2] 28) from (heap_alloc_old _ _ hlw).trans HUX.out)
 have HB1 := hide (fun (wx : World) (h : Kept (w1.alloc (.cells #[.string x1_0, .slice A1_1 x1_1.length C1_1, .slice A1_2 x1_2.length C1_2, .int .i64 x1_3, .string x1_4, .int .i64 x1_5, .int .i64 x1_6, .slice A1_7 x1_7.length C1_7, .int .i64 x1_8] 44)) wx) => show wx.cell? ⟨w1.heap.size, 1, none⟩ = some (.slice A1_1 x1_1.length C1_1) from (Kept.box h HBX.out (by decide) 1).trans (by simp))
 have HB2 := hide (fun (wx : World) (h : Kept (w1.alloc (.cells #[.string x1_0, .slice A1_1 x1_1.length C1_1, .slice A1_2 x1_2.length C1_2, .int .i64 x1_3, .string x1_4, .int .i64 x1_5, .int .i64 x1_6, .slice A1_7 x1_7.length C1_7, .int .i64 x1_8] 44)) wx) => show wx.cell? ⟨w1.heap.size, 2, none⟩ = some (.slice A1_2 x1_2.length C1_2) from (Kept.box h HBX.out (by decide) 2).trans (by simp))
 have HB3 := hide (fun (wx : World) (h : Kept (w1.alloc (.cells #[.string x1_0, .slice A1_1 x1_1.length C1_1, .slice A1_2 x1_2.length C1_2, .int .i64 x1_3, .string x1_4, .int .i64 x1_5, .int .i64 x1_6, .slice A1_7 x1_7.length C1_7, .int .i64 x1_8] 44)) wx) => show wx.cell? ⟨w1.heap.size, 3, none⟩ = some (.int .i64 x1_3) from (Kept.box h HBX.out (by decide) 3).trans (by simp))
 have HB4 := hide (fun (wx : World) (h : Kept (w1.alloc (.cells #[.string x1_0, .slice A1_1 x1_1.length C1_1, .slice A1_2 x1_2.length C1_2, .int .i64 x1_3, .string x1_4, .int .i64 x1_5, .int .i64 x1_6, .slice A1_7 x1_7.length C1_7, .int .i64 x1_8] 44)) wx) => show wx.cell? ⟨w1.heap.size, 4, none⟩ = some (.string x1_4) from (Kept.box h HBX.out (by decide) 4).trans (by simp))
 have HB5 := hide (fun (wx : World) (h : Kept (w1.alloc (.cells #[.string x1_0, .slice A1_1 x1_1.length C1_1, .slice A1_2 x1_2.length C1_2, .int .i64 x1_3, .string x1_4, .int .i64 x1_5, .int .i64 x1_6, .slice A1_7 x1_7.length C1_7, .int .i64 x1_8] 44)) wx) => show wx.cell? ⟨w1.heap.size, 5, none⟩ = some (.int .i64 x1_5) from (Kept.box h HBX.out (by decide) 5).trans (by simp))
 have HB6 := hide (fun (wx : World) (h : Kept (w1.alloc (.cells #[.string x1_0, .slice A1_1 x1_1.length C1_1, .slice A1_2 x1_2.length C1_2, .int .i64 x1_3, .string x1_4, .int .i64 x1_5, .int .i64 x1_6, .slice A1_7 x1_7.length C1_7, .int .i64 x1_8] 44)) wx) => show wx.cell? ⟨w1.heap.size, 6, none⟩ = some (.int .i64 x1_6) from (Kept.box h HBX.out (by decide) 6).trans (by simp))
 have HB7 := hide (fun (wx : World) (h : Kept (w1.alloc (.cells #[.string x1_0, .slice A1_1 x1_1.length C1_1, .slice A1_2 x1_2.length C1_2, .int .i64 x1_3, .string x1_4, .int .i64 x1_5, .int .i64 x1_6, .slice A1_7 x1_7.length C1_7, .int .i64 x1_8] 44)) wx) => show wx.cell? ⟨w1.heap.size, 7, none⟩ = some (.slice A1_7 x1_7.length C1_7) from (Kept.box h HBX.out (by decide) 7).trans (by simp))
 have HU0 := hide (fun (wx : World) (h : Kept (w1.alloc (.cells #[.string x1_0, .slice A1_1 x1_1.length C1_1, .slice A1_2 x1_2.length C1_2, .int .i64 x1_3, .string x1_4, .int .i64 x1_5, .int .i64 x1_6, .slice A1_7 x1_7.length C1_7, .int .i64 x1_8] 44)) wx) => show wx.cell? ⟨w.heap.size, 0, none⟩ = some (.slice A0 R.length c0) from (Kept.box h HUX2.out (by decide) 0).trans (by simp [World.cell?, HUX2.out]))
 have HU1 := hide (fun (wx : World) (h : Kept (w1.alloc (.cells #[.string x1_0, .slice A1_1 x1_1.length C1_1, .slice A1_2 x1_2.length C1_2, .int .i64 x1_3, .string x1_4, .int .i64 x1_5, .int .i64 x1_6, .slice A1_7 x1_7.length C1_7, .int .i64 x1_8] 44)) wx) => show wx.cell? ⟨w.heap.size, 1, none⟩ = some (.slice A1 G.length c1) from (Kept.box h HUX2.out (by decide) 1).trans (by simp [World.cell?, HUX2.out]))
 have HU2 := hide (fun (wx : World) (h : Kept (w1.alloc (.cells #[.string x1_0, .slice A1_1 x1_1.length C1_1, .slice A1_2 x1_2.length C1_2, .int .i64 x1_3, .string x1_4, .int .i64 x1_5, .int .i64 x1_6, .slice A1_7 x1_7.length C1_7, .int .i64 x1_8] 44)) wx) => show wx.cell? ⟨w.heap.size, 2, none⟩ = some (.slice (some ⟨b1, o1, none⟩) P.length c2) from (Kept.box h HUX2.out (by decide) 2).trans (by simp [World.cell?, HUX2.out]))
 by_cases hp1 : x1_1 = []
 case pos => as_aux_lemma =>
  have HN1 := hide (show x1_1.length = 0 by rw [hp1]; rfl)
  have HPP1 := hide hp1
  clear hp1
  by_cases hp2 : x1_2 = []
  case pos => as_aux_lemma =>
   have HN2 := hide (show x1_2.length = 0 by rw [hp2]; rfl)
   have HPP2 := hide hp2
   clear hp2
   refine wp_region_held_drew (S := fun w' => w'.cell? ⟨w1.heap.size, 1, none⟩ = some (.slice A1_1 x1_1.length C1_1) ∧ w'.cell? ⟨w1.heap.size, 2, none⟩ = some (.slice A1_2 x1_2.length C1_2)) (by kernel_rfl) ?_ (fun hHeld => ?_)
   ·
    exact ⟨HB1.out _ (by first | exact hka2 | exact hka1 | exact Kept.ofBel bl), HB2.out _ (by first | exact hka2 | exact hka1 | exact Kept.ofBel bl)⟩
   refine tkI 1 ?_
   refine tkI 2 ?_
   refine tkI 4 ?_
   refine tkI 5 ?_
   refine wpAnyH_ready (rs := [0]) (by kernel_rfl) (by simp) ?_
   refine AllReadyH.cons (o := _) rfl (fun K hK => ?_) AllReadyH.nil
   go_simp
   clear hHeld
   have hbs : Bel (w1.alloc (.cells #[.string x1_0, .slice A1_1 x1_1.length C1_1, .slice A1_2 x1_2.length C1_2, .int .i64 x1_3, .string x1_4, .int .i64 x1_5, .int .i64 x1_6, .slice A1_7 x1_7.length C1_7, .int .i64 x1_8] 44)) _ := (show Bel (w1.alloc (.cells #[.string x1_0, .slice A1_1 x1_1.length C1_1, .slice A1_2 x1_2.length C1_2, .int .i64 x1_3, .string x1_4, .int .i64 x1_5, .int .i64 x1_6, .slice A1_7 x1_7.length C1_7, .int .i64 x1_8] 44)) (((w1.alloc (.cells #[.string x1_0, .slice A1_1 x1_1.length C1_1, .slice A1_2 x1_2.length C1_2, .int .i64 x1_3, .string x1_4, .int .i64 x1_5, .int .i64 x1_6, .slice A1_7 x1_7.length C1_7, .int .i64 x1_8] 44)).alloc (.cells #[] 9)).drew) from bl)
   have ho0 : OwnS w (((w1.alloc (.cells #[.string x1_0, .slice A1_1 x1_1.length C1_1, .slice A1_2 x1_2.length C1_2, .int .i64 x1_3, .string x1_4, .int .i64 x1_5, .int .i64 x1_6, .slice A1_7 x1_7.length C1_7, .int .i64 x1_8] 44)).alloc (.cells #[] 9)).drew) (.slice (some ⟨w1.heap.size + 1, 0, none⟩) 0 0) [] := OwnS.bel (show OwnS w ((w1.alloc (.cells #[.string x1_0, .slice A1_1 x1_1.length C1_1, .slice A1_2 x1_2.length C1_2, .int .i64 x1_3, .string x1_4, .int .i64 x1_5, .int .i64 x1_6, .slice A1_7 x1_7.length C1_7, .int .i64 x1_8] 44)).alloc (.cells #[] 9)) (.slice (some ⟨w1.heap.size + 1, 0, none⟩) 0 0) [] from ⟨by have h := World.ownsRow_made (base := w.heap.size) (e := 9) (size := 1) (w1.alloc (.cells #[.string x1_0, .slice A1_1 x1_1.length C1_1, .slice A1_2 x1_2.length C1_2, .int .i64 x1_3, .string x1_4, .int .i64 x1_5, .int .i64 x1_6, .slice A1_7 x1_7.length C1_7, .int .i64 x1_8] 44)) #[] 0 (by have h := hb0.size; exact h) (by unfold maxLen; omega) rfl; simpa using h, fun x hx => by cases hx⟩) bl
   refine hK.out _ _ ?_ (fun hHeld => ?_)
   ·
    exact ⟨HB1.out _ (by first | exact hka2 | exact hka1 | exact Kept.ofBel bl), HB2.out _ (by first | exact hka2 | exact hka1 | exact Kept.ofBel bl)⟩
   clear hK K
   (try simp only [Act.put, List.setIfInBounds_toArray, List.set_cons_zero, List.set_cons_succ, List.getElem_toArray, List.getElem_cons_zero, List.getElem_cons_succ])
   refine wpAnyH_ready (rs := [3]) (by kernel_rfl) (by simp) ?_
   refine AllReadyH.cons (o := _) rfl (fun K hK => ?_) AllReadyH.nil
   rw [if_pos (by rfl)]
   refine wp_append_zero (.tmp 26) (.tmp 28) 25 rfl w.heap.size 9 i0 1 Tryd.underlying25 hi0 _ _ _ rfl ho0.1 _ _ _ rfl HN1.out ?_
   have ho1 := ho0
   have hka1 : Kept (w1.alloc (.cells #[.string x1_0, .slice A1_1 x1_1.length C1_1, .slice A1_2 x1_2.length C1_2, .int .i64 x1_3, .string x1_4, .int .i64 x1_5, .int .i64 x1_6, .slice A1_7 x1_7.length C1_7, .int .i64 x1_8] 44)) (((w1.alloc (.cells #[.string x1_0, .slice A1_1 x1_1.length C1_1, .slice A1_2 x1_2.length C1_2, .int .i64 x1_3, .string x1_4, .int .i64 x1_5, .int .i64 x1_6, .slice A1_7 x1_7.length C1_7, .int .i64 x1_8] 44)).alloc (.cells #[] 9)).drew) := Kept.ofBel hbs
   have hbB1 : Bel w (((w1.alloc (.cells #[.string x1_0, .slice A1_1 x1_1.length C1_1, .slice A1_2 x1_2.length C1_2, .int .i64 x1_3, .string x1_4, .int .i64 x1_5, .int .i64 x1_6, .slice A1_7 x1_7.length C1_7, .int .i64 x1_8] 44)).alloc (.cells #[] 9)).drew) := Bel.trans hb0 hbs
   refine hK.out _ _ ?_ (fun hHeld => ?_)
   ·
    exact ⟨HB1.out _ (by first | exact hka2 | exact hka1 | exact Kept.ofBel bl), HB2.out _ (by first | exact hka2 | exact hka1 | exact Kept.ofBel bl)⟩
   clear hK K
   (try simp only [Act.put, List.setIfInBounds_toArray, List.set_cons_zero, List.set_cons_succ, List.getElem_toArray, List.getElem_cons_zero, List.getElem_cons_succ])
   refine wpAnyH_ready (rs := [6]) (by kernel_rfl) (by simp) ?_
   refine AllReadyH.cons (o := _) rfl (fun K hK => ?_) AllReadyH.nil
   rw [if_pos (by rfl)]
   refine wp_append_zero (.tmp 29) (.tmp 31) 25 rfl w.heap.size 9 i0 1 Tryd.underlying25 hi0 _ _ _ rfl ho1.1 _ _ _ rfl HN2.out ?_
   have ho2 := ho1
   have hka2 := hka1
   have hbB2 := hbB1
   refine hK.out _ _ ?_ (fun hHeld => ?_)
   ·
    exact ⟨HB1.out _ (by first | exact hka2 | exact hka1 | exact Kept.ofBel bl), HB2.out _ (by first | exact hka2 | exact hka1 | exact Kept.ofBel bl)⟩
   clear hK K
   (try simp only [Act.put, List.setIfInBounds_toArray, List.set_cons_zero, List.set_cons_succ, List.getElem_toArray, List.getElem_cons_zero, List.getElem_cons_succ])
   refine tkI 7 ?_
   refine wpAnyH_done (by kernel_rfl) ?_ _
   have e0 := HU0.out _ hka2
   have e1 := HU1.out _ hka2
   have e2 := HU2.out _ hka2
   have q3 := HB3.out _ hka2
   have q4 := HB4.out _ hka2
   have q5 := HB5.out _ hka2
   have q6 := HB6.out _ hka2
   have q7 := HB7.out _ hka2
   have HO2 := hide ho2
   have HXE := hide (show ([] : List ByteArray) = x1_1 ++ x1_2 by simp [HPP1.out, HPP2.out])
   clear ho2 ho1 ho0
   go_wp2_with (go_at_call 16; refine (l9Collect_any (TExpr.mk x1_3 x1_4 x1_5 x1_6 x1_7) R G P S w _ _ _ _ (x1_1 ++ x1_2) HT.out HU.out HVB.out bl (by rw [← HXE.out]; exact OwnS.bel HO2.out bl) (by have h := HP1.out.2.2.2.1; simp; omega) HP1.out.2.2.1).mono ?_; rintro e w9 ⟨v9, rfl, ho9, hb9, -⟩)
   all_goals
    go_returns
    exact ⟨_, rfl, by rw [HLL.out]; exact OwnS.bel ho9 bl, Bel.trans hb9 bl⟩
  case neg => as_aux_lemma =>
   obtain ⟨ad2, rfl⟩ : ∃ ad, A1_2 = some ad := by obtain ⟨b, oo, h, -⟩ := GR1_2.out.2.2 (by simpa [strsD] using hp2); exact ⟨_, h⟩
   refine wp_region_held_drew (S := fun w' => w'.cell? ⟨w1.heap.size, 1, none⟩ = some (.slice A1_1 x1_1.length C1_1) ∧ w'.cell? ⟨w1.heap.size, 2, none⟩ = some (.slice (some ad2) x1_2.length C1_2)) (by kernel_rfl) ?_ (fun hHeld => ?_)
   ·
    exact ⟨HB1.out _ (by first | exact hka2 | exact hka1 | exact Kept.ofBel bl), HB2.out _ (by first | exact hka2 | exact hka1 | exact Kept.ofBel bl)⟩
   refine tkI 1 ?_
   refine tkI 2 ?_
   refine tkI 4 ?_
   refine tkI 5 ?_
   refine wpAnyH_ready (rs := [0]) (by kernel_rfl) (by simp) ?_
   refine AllReadyH.cons (o := _) rfl (fun K hK => ?_) AllReadyH.nil
   go_simp
   clear hHeld
   have hbs : Bel (w1.alloc (.cells #[.string x1_0, .slice A1_1 x1_1.length C1_1, .slice (some ad2) x1_2.length C1_2, .int .i64 x1_3, .string x1_4, .int .i64 x1_5, .int .i64 x1_6, .slice A1_7 x1_7.length C1_7, .int .i64 x1_8] 44)) _ := (show Bel (w1.alloc (.cells #[.string x1_0, .slice A1_1 x1_1.length C1_1, .slice (some ad2) x1_2.length C1_2, .int .i64 x1_3, .string x1_4, .int .i64 x1_5, .int .i64 x1_6, .slice A1_7 x1_7.length C1_7, .int .i64 x1_8] 44)) (((w1.alloc (.cells #[.string x1_0, .slice A1_1 x1_1.length C1_1, .slice (some ad2) x1_2.length C1_2, .int .i64 x1_3, .string x1_4, .int .i64 x1_5, .int .i64 x1_6, .slice A1_7 x1_7.length C1_7, .int .i64 x1_8] 44)).alloc (.cells #[] 9)).drew) from bl)
   have ho0 : OwnS w (((w1.alloc (.cells #[.string x1_0, .slice A1_1 x1_1.length C1_1, .slice (some ad2) x1_2.length C1_2, .int .i64 x1_3, .string x1_4, .int .i64 x1_5, .int .i64 x1_6, .slice A1_7 x1_7.length C1_7, .int .i64 x1_8] 44)).alloc (.cells #[] 9)).drew) (.slice (some ⟨w1.heap.size + 1, 0, none⟩) 0 0) [] := OwnS.bel (show OwnS w ((w1.alloc (.cells #[.string x1_0, .slice A1_1 x1_1.length C1_1, .slice (some ad2) x1_2.length C1_2, .int .i64 x1_3, .string x1_4, .int .i64 x1_5, .int .i64 x1_6, .slice A1_7 x1_7.length C1_7, .int .i64 x1_8] 44)).alloc (.cells #[] 9)) (.slice (some ⟨w1.heap.size + 1, 0, none⟩) 0 0) [] from ⟨by have h := World.ownsRow_made (base := w.heap.size) (e := 9) (size := 1) (w1.alloc (.cells #[.string x1_0, .slice A1_1 x1_1.length C1_1, .slice (some ad2) x1_2.length C1_2, .int .i64 x1_3, .string x1_4, .int .i64 x1_5, .int .i64 x1_6, .slice A1_7 x1_7.length C1_7, .int .i64 x1_8] 44)) #[] 0 (by have h := hb0.size; exact h) (by unfold maxLen; omega) rfl; simpa using h, fun x hx => by cases hx⟩) bl
   refine hK.out _ _ ?_ (fun hHeld => ?_)
   ·
    exact ⟨HB1.out _ (by first | exact hka2 | exact hka1 | exact Kept.ofBel bl), HB2.out _ (by first | exact hka2 | exact hka1 | exact Kept.ofBel bl)⟩
   clear hK K
   (try simp only [Act.put, List.setIfInBounds_toArray, List.set_cons_zero, List.set_cons_succ, List.getElem_toArray, List.getElem_cons_zero, List.getElem_cons_succ])
   refine wpAnyH_ready (rs := [3]) (by kernel_rfl) (by simp) ?_
   refine AllReadyH.cons (o := _) rfl (fun K hK => ?_) AllReadyH.nil
   rw [if_pos (by rfl)]
   refine wp_append_zero (.tmp 26) (.tmp 28) 25 rfl w.heap.size 9 i0 1 Tryd.underlying25 hi0 _ _ _ rfl ho0.1 _ _ _ rfl HN1.out ?_
   have ho1 := ho0
   have hka1 : Kept (w1.alloc (.cells #[.string x1_0, .slice A1_1 x1_1.length C1_1, .slice (some ad2) x1_2.length C1_2, .int .i64 x1_3, .string x1_4, .int .i64 x1_5, .int .i64 x1_6, .slice A1_7 x1_7.length C1_7, .int .i64 x1_8] 44)) (((w1.alloc (.cells #[.string x1_0, .slice A1_1 x1_1.length C1_1, .slice (some ad2) x1_2.length C1_2, .int .i64 x1_3, .string x1_4, .int .i64 x1_5, .int .i64 x1_6, .slice A1_7 x1_7.length C1_7, .int .i64 x1_8] 44)).alloc (.cells #[] 9)).drew) := Kept.ofBel hbs
   have hbB1 : Bel w (((w1.alloc (.cells #[.string x1_0, .slice A1_1 x1_1.length C1_1, .slice (some ad2) x1_2.length C1_2, .int .i64 x1_3, .string x1_4, .int .i64 x1_5, .int .i64 x1_6, .slice A1_7 x1_7.length C1_7, .int .i64 x1_8] 44)).alloc (.cells #[] 9)).drew) := Bel.trans hb0 hbs
   refine hK.out _ _ ?_ (fun hHeld => ?_)
   ·
    exact ⟨HB1.out _ (by first | exact hka2 | exact hka1 | exact Kept.ofBel bl), HB2.out _ (by first | exact hka2 | exact hka1 | exact Kept.ofBel bl)⟩
   clear hK K
   (try simp only [Act.put, List.setIfInBounds_toArray, List.set_cons_zero, List.set_cons_succ, List.getElem_toArray, List.getElem_cons_zero, List.getElem_cons_succ])
   refine wpAnyH_ready (rs := [6]) (by kernel_rfl) (by simp) ?_
   refine AllReadyH.cons (o := _) rfl (fun K hK => ?_) AllReadyH.nil
   rw [if_pos (by rfl)]
   refine wp_append_own _ (.tmp 29) (.tmp 31) 25 rfl w.heap.size 9 i0 (.string ByteArray.empty) 1 16 Tryd.underlying25 hi0 iz0 iz1 iz2 rfl (by decide) _ _ _ rfl ho1.1 ad2 x1_2.length C1_2 (x1_2.map Value.string) rfl (by simp) (row_news (Row.bel bl GR1_2.out)) (by intro u hu; obtain ⟨s, -, rfl⟩ := List.mem_map.1 hu; rfl) (by unfold maxLen; (try simp); omega) (by (try simp); omega) (by have h := hbB1.size; omega) ?_
   intro v6 w16 hown6 hgrow6 _
   have hka2 : Kept (w1.alloc (.cells #[.string x1_0, .slice A1_1 x1_1.length C1_1, .slice (some ad2) x1_2.length C1_2, .int .i64 x1_3, .string x1_4, .int .i64 x1_5, .int .i64 x1_6, .slice A1_7 x1_7.length C1_7, .int .i64 x1_8] 44)) w16 := Kept.trans hka1 (Kept.grown ho1 hgrow6)
   have hbB2 : Bel w w16 := Below.grown hbB1 hgrow6 (by have h := hbB1.size; exact h) (OwnS.base ho1)
   have ho2 : OwnS w w16 v6 (([] : List ByteArray) ++ x1_2) := ⟨by simpa using hown6, fun x hx => HSZ.out x (by simp at hx; simp [hx])⟩
   clear hown6 hgrow6
   refine hK.out _ _ ?_ (fun hHeld => ?_)
   ·
    exact ⟨HB1.out _ (by first | exact hka2 | exact hka1 | exact Kept.ofBel bl), HB2.out _ (by first | exact hka2 | exact hka1 | exact Kept.ofBel bl)⟩
   clear hK K
   (try simp only [Act.put, List.setIfInBounds_toArray, List.set_cons_zero, List.set_cons_succ, List.getElem_toArray, List.getElem_cons_zero, List.getElem_cons_succ])
   refine tkI 7 ?_
   refine wpAnyH_done (by kernel_rfl) ?_ _
   have e0 := HU0.out _ hka2
   have e1 := HU1.out _ hka2
   have e2 := HU2.out _ hka2
   have q3 := HB3.out _ hka2
   have q4 := HB4.out _ hka2
   have q5 := HB5.out _ hka2
   have q6 := HB6.out _ hka2
   have q7 := HB7.out _ hka2
   have HO2 := hide ho2
   have HXE := hide (show ([] : List ByteArray) ++ x1_2 = x1_1 ++ x1_2 by simp [HPP1.out])
   clear ho2 ho1 ho0
   go_wp2_with (go_at_call 16; refine (l9Collect_any (TExpr.mk x1_3 x1_4 x1_5 x1_6 x1_7) R G P S w _ _ _ _ (x1_1 ++ x1_2) HT.out HU.out HVB.out bl (by rw [← HXE.out]; exact OwnS.bel HO2.out bl) (by have h := HP1.out.2.2.2.1; simp; omega) HP1.out.2.2.1).mono ?_; rintro e w9 ⟨v9, rfl, ho9, hb9, -⟩)
   all_goals
    go_returns
    exact ⟨_, rfl, by rw [HLL.out]; exact OwnS.bel ho9 bl, Bel.trans hb9 bl⟩
 case neg => as_aux_lemma =>
  obtain ⟨ad1, rfl⟩ : ∃ ad, A1_1 = some ad := by obtain ⟨b, oo, h, -⟩ := GR1_1.out.2.2 (by simpa [strsD] using hp1); exact ⟨_, h⟩
  by_cases hp2 : x1_2 = []
  case pos => as_aux_lemma =>
   have HN2 := hide (show x1_2.length = 0 by rw [hp2]; rfl)
   have HPP2 := hide hp2
   clear hp2
   refine wp_region_held_drew (S := fun w' => w'.cell? ⟨w1.heap.size, 1, none⟩ = some (.slice (some ad1) x1_1.length C1_1) ∧ w'.cell? ⟨w1.heap.size, 2, none⟩ = some (.slice A1_2 x1_2.length C1_2)) (by kernel_rfl) ?_ (fun hHeld => ?_)
   ·
    exact ⟨HB1.out _ (by first | exact hka2 | exact hka1 | exact Kept.ofBel bl), HB2.out _ (by first | exact hka2 | exact hka1 | exact Kept.ofBel bl)⟩
   refine tkI 1 ?_
   refine tkI 2 ?_
   refine tkI 4 ?_
   refine tkI 5 ?_
   refine wpAnyH_ready (rs := [0]) (by kernel_rfl) (by simp) ?_
   refine AllReadyH.cons (o := _) rfl (fun K hK => ?_) AllReadyH.nil
   go_simp
   clear hHeld
   have hbs : Bel (w1.alloc (.cells #[.string x1_0, .slice (some ad1) x1_1.length C1_1, .slice A1_2 x1_2.length C1_2, .int .i64 x1_3, .string x1_4, .int .i64 x1_5, .int .i64 x1_6, .slice A1_7 x1_7.length C1_7, .int .i64 x1_8] 44)) _ := (show Bel (w1.alloc (.cells #[.string x1_0, .slice (some ad1) x1_1.length C1_1, .slice A1_2 x1_2.length C1_2, .int .i64 x1_3, .string x1_4, .int .i64 x1_5, .int .i64 x1_6, .slice A1_7 x1_7.length C1_7, .int .i64 x1_8] 44)) (((w1.alloc (.cells #[.string x1_0, .slice (some ad1) x1_1.length C1_1, .slice A1_2 x1_2.length C1_2, .int .i64 x1_3, .string x1_4, .int .i64 x1_5, .int .i64 x1_6, .slice A1_7 x1_7.length C1_7, .int .i64 x1_8] 44)).alloc (.cells #[] 9)).drew) from bl)
   have ho0 : OwnS w (((w1.alloc (.cells #[.string x1_0, .slice (some ad1) x1_1.length C1_1, .slice A1_2 x1_2.length C1_2, .int .i64 x1_3, .string x1_4, .int .i64 x1_5, .int .i64 x1_6, .slice A1_7 x1_7.length C1_7, .int .i64 x1_8] 44)).alloc (.cells #[] 9)).drew) (.slice (some ⟨w1.heap.size + 1, 0, none⟩) 0 0) [] := OwnS.bel (show OwnS w ((w1.alloc (.cells #[.string x1_0, .slice (some ad1) x1_1.length C1_1, .slice A1_2 x1_2.length C1_2, .int .i64 x1_3, .string x1_4, .int .i64 x1_5, .int .i64 x1_6, .slice A1_7 x1_7.length C1_7, .int .i64 x1_8] 44)).alloc (.cells #[] 9)) (.slice (some ⟨w1.heap.size + 1, 0, none⟩) 0 0) [] from ⟨by have h := World.ownsRow_made (base := w.heap.size) (e := 9) (size := 1) (w1.alloc (.cells #[.string x1_0, .slice (some ad1) x1_1.length C1_1, .slice A1_2 x1_2.length C1_2, .int .i64 x1_3, .string x1_4, .int .i64 x1_5, .int .i64 x1_6, .slice A1_7 x1_7.length C1_7, .int .i64 x1_8] 44)) #[] 0 (by have h := hb0.size; exact h) (by unfold maxLen; omega) rfl; simpa using h, fun x hx => by cases hx⟩) bl
   refine hK.out _ _ ?_ (fun hHeld => ?_)
   ·
    exact ⟨HB1.out _ (by first | exact hka2 | exact hka1 | exact Kept.ofBel bl), HB2.out _ (by first | exact hka2 | exact hka1 | exact Kept.ofBel bl)⟩
   clear hK K
   (try simp only [Act.put, List.setIfInBounds_toArray, List.set_cons_zero, List.set_cons_succ, List.getElem_toArray, List.getElem_cons_zero, List.getElem_cons_succ])
   refine wpAnyH_ready (rs := [3]) (by kernel_rfl) (by simp) ?_
   refine AllReadyH.cons (o := _) rfl (fun K hK => ?_) AllReadyH.nil
   rw [if_pos (by rfl)]
   refine wp_append_own _ (.tmp 26) (.tmp 28) 25 rfl w.heap.size 9 i0 (.string ByteArray.empty) 1 16 Tryd.underlying25 hi0 iz0 iz1 iz2 rfl (by decide) _ _ _ rfl ho0.1 ad1 x1_1.length C1_1 (x1_1.map Value.string) rfl (by simp) (row_news (Row.bel bl GR1_1.out)) (by intro u hu; obtain ⟨s, -, rfl⟩ := List.mem_map.1 hu; rfl) (by unfold maxLen; (try simp); omega) (by (try simp); omega) (by have h := hbs.size; omega) ?_
   intro v3 w13 hown3 hgrow3 _
   have hka1 : Kept (w1.alloc (.cells #[.string x1_0, .slice (some ad1) x1_1.length C1_1, .slice A1_2 x1_2.length C1_2, .int .i64 x1_3, .string x1_4, .int .i64 x1_5, .int .i64 x1_6, .slice A1_7 x1_7.length C1_7, .int .i64 x1_8] 44)) w13 := Kept.trans (Kept.ofBel hbs) (Kept.grown ho0 hgrow3)
   have hbB1 : Bel w w13 := Below.grown (Bel.trans hb0 hbs) hgrow3 (by have h := (Bel.trans hb0 hbs).size; exact h) (OwnS.base ho0)
   have ho1 : OwnS w w13 v3 x1_1 := ⟨by simpa using hown3, fun x hx => HSZ.out x (by simp [hx])⟩
   clear hown3 hgrow3
   refine hK.out _ _ ?_ (fun hHeld => ?_)
   ·
    exact ⟨HB1.out _ (by first | exact hka2 | exact hka1 | exact Kept.ofBel bl), HB2.out _ (by first | exact hka2 | exact hka1 | exact Kept.ofBel bl)⟩
   clear hK K
   (try simp only [Act.put, List.setIfInBounds_toArray, List.set_cons_zero, List.set_cons_succ, List.getElem_toArray, List.getElem_cons_zero, List.getElem_cons_succ])
   refine wpAnyH_ready (rs := [6]) (by kernel_rfl) (by simp) ?_
   refine AllReadyH.cons (o := _) rfl (fun K hK => ?_) AllReadyH.nil
   rw [if_pos (by rfl)]
   refine wp_append_zero (.tmp 29) (.tmp 31) 25 rfl w.heap.size 9 i0 1 Tryd.underlying25 hi0 _ _ _ rfl ho1.1 _ _ _ rfl HN2.out ?_
   have ho2 := ho1
   have hka2 := hka1
   have hbB2 := hbB1
   refine hK.out _ _ ?_ (fun hHeld => ?_)
   ·
    exact ⟨HB1.out _ (by first | exact hka2 | exact hka1 | exact Kept.ofBel bl), HB2.out _ (by first | exact hka2 | exact hka1 | exact Kept.ofBel bl)⟩
   clear hK K
   (try simp only [Act.put, List.setIfInBounds_toArray, List.set_cons_zero, List.set_cons_succ, List.getElem_toArray, List.getElem_cons_zero, List.getElem_cons_succ])
   refine tkI 7 ?_
   refine wpAnyH_done (by kernel_rfl) ?_ _
   have e0 := HU0.out _ hka2
   have e1 := HU1.out _ hka2
   have e2 := HU2.out _ hka2
   have q3 := HB3.out _ hka2
   have q4 := HB4.out _ hka2
   have q5 := HB5.out _ hka2
   have q6 := HB6.out _ hka2
   have q7 := HB7.out _ hka2
   have HO2 := hide ho2
   have HXE := hide (show x1_1 = x1_1 ++ x1_2 by simp [HPP2.out])
   clear ho2 ho1 ho0
   go_wp2_with (go_at_call 16; refine (l9Collect_any (TExpr.mk x1_3 x1_4 x1_5 x1_6 x1_7) R G P S w _ _ _ _ (x1_1 ++ x1_2) HT.out HU.out HVB.out bl (by rw [← HXE.out]; exact OwnS.bel HO2.out bl) (by have h := HP1.out.2.2.2.1; simp; omega) HP1.out.2.2.1).mono ?_; rintro e w9 ⟨v9, rfl, ho9, hb9, -⟩)
   all_goals
    go_returns
    exact ⟨_, rfl, by rw [HLL.out]; exact OwnS.bel ho9 bl, Bel.trans hb9 bl⟩
  case neg => as_aux_lemma =>
   obtain ⟨ad2, rfl⟩ : ∃ ad, A1_2 = some ad := by obtain ⟨b, oo, h, -⟩ := GR1_2.out.2.2 (by simpa [strsD] using hp2); exact ⟨_, h⟩
   refine wp_region_held_drew (S := fun w' => w'.cell? ⟨w1.heap.size, 1, none⟩ = some (.slice (some ad1) x1_1.length C1_1) ∧ w'.cell? ⟨w1.heap.size, 2, none⟩ = some (.slice (some ad2) x1_2.length C1_2)) (by kernel_rfl) ?_ (fun hHeld => ?_)
   ·
    exact ⟨HB1.out _ (by first | exact hka2 | exact hka1 | exact Kept.ofBel bl), HB2.out _ (by first | exact hka2 | exact hka1 | exact Kept.ofBel bl)⟩
   refine tkI 1 ?_
   refine tkI 2 ?_
   refine tkI 4 ?_
   refine tkI 5 ?_
   refine wpAnyH_ready (rs := [0]) (by kernel_rfl) (by simp) ?_
   refine AllReadyH.cons (o := _) rfl (fun K hK => ?_) AllReadyH.nil
   go_simp
   clear hHeld
   have hbs : Bel (w1.alloc (.cells #[.string x1_0, .slice (some ad1) x1_1.length C1_1, .slice (some ad2) x1_2.length C1_2, .int .i64 x1_3, .string x1_4, .int .i64 x1_5, .int .i64 x1_6, .slice A1_7 x1_7.length C1_7, .int .i64 x1_8] 44)) _ := (show Bel (w1.alloc (.cells #[.string x1_0, .slice (some ad1) x1_1.length C1_1, .slice (some ad2) x1_2.length C1_2, .int .i64 x1_3, .string x1_4, .int .i64 x1_5, .int .i64 x1_6, .slice A1_7 x1_7.length C1_7, .int .i64 x1_8] 44)) (((w1.alloc (.cells #[.string x1_0, .slice (some ad1) x1_1.length C1_1, .slice (some ad2) x1_2.length C1_2, .int .i64 x1_3, .string x1_4, .int .i64 x1_5, .int .i64 x1_6, .slice A1_7 x1_7.length C1_7, .int .i64 x1_8] 44)).alloc (.cells #[] 9)).drew) from bl)
   have ho0 : OwnS w (((w1.alloc (.cells #[.string x1_0, .slice (some ad1) x1_1.length C1_1, .slice (some ad2) x1_2.length C1_2, .int .i64 x1_3, .string x1_4, .int .i64 x1_5, .int .i64 x1_6, .slice A1_7 x1_7.length C1_7, .int .i64 x1_8] 44)).alloc (.cells #[] 9)).drew) (.slice (some ⟨w1.heap.size + 1, 0, none⟩) 0 0) [] := OwnS.bel (show OwnS w ((w1.alloc (.cells #[.string x1_0, .slice (some ad1) x1_1.length C1_1, .slice (some ad2) x1_2.length C1_2, .int .i64 x1_3, .string x1_4, .int .i64 x1_5, .int .i64 x1_6, .slice A1_7 x1_7.length C1_7, .int .i64 x1_8] 44)).alloc (.cells #[] 9)) (.slice (some ⟨w1.heap.size + 1, 0, none⟩) 0 0) [] from ⟨by have h := World.ownsRow_made (base := w.heap.size) (e := 9) (size := 1) (w1.alloc (.cells #[.string x1_0, .slice (some ad1) x1_1.length C1_1, .slice (some ad2) x1_2.length C1_2, .int .i64 x1_3, .string x1_4, .int .i64 x1_5, .int .i64 x1_6, .slice A1_7 x1_7.length C1_7, .int .i64 x1_8] 44)) #[] 0 (by have h := hb0.size; exact h) (by unfold maxLen; omega) rfl; simpa using h, fun x hx => by cases hx⟩) bl
   refine hK.out _ _ ?_ (fun hHeld => ?_)
   ·
    exact ⟨HB1.out _ (by first | exact hka2 | exact hka1 | exact Kept.ofBel bl), HB2.out _ (by first | exact hka2 | exact hka1 | exact Kept.ofBel bl)⟩
   clear hK K
   (try simp only [Act.put, List.setIfInBounds_toArray, List.set_cons_zero, List.set_cons_succ, List.getElem_toArray, List.getElem_cons_zero, List.getElem_cons_succ])
   refine wpAnyH_ready (rs := [3]) (by kernel_rfl) (by simp) ?_
   refine AllReadyH.cons (o := _) rfl (fun K hK => ?_) AllReadyH.nil
   rw [if_pos (by rfl)]
   refine wp_append_own _ (.tmp 26) (.tmp 28) 25 rfl w.heap.size 9 i0 (.string ByteArray.empty) 1 16 Tryd.underlying25 hi0 iz0 iz1 iz2 rfl (by decide) _ _ _ rfl ho0.1 ad1 x1_1.length C1_1 (x1_1.map Value.string) rfl (by simp) (row_news (Row.bel bl GR1_1.out)) (by intro u hu; obtain ⟨s, -, rfl⟩ := List.mem_map.1 hu; rfl) (by unfold maxLen; (try simp); omega) (by (try simp); omega) (by have h := hbs.size; omega) ?_
   intro v3 w13 hown3 hgrow3 _
   have hka1 : Kept (w1.alloc (.cells #[.string x1_0, .slice (some ad1) x1_1.length C1_1, .slice (some ad2) x1_2.length C1_2, .int .i64 x1_3, .string x1_4, .int .i64 x1_5, .int .i64 x1_6, .slice A1_7 x1_7.length C1_7, .int .i64 x1_8] 44)) w13 := Kept.trans (Kept.ofBel hbs) (Kept.grown ho0 hgrow3)
   have hbB1 : Bel w w13 := Below.grown (Bel.trans hb0 hbs) hgrow3 (by have h := (Bel.trans hb0 hbs).size; exact h) (OwnS.base ho0)
   have ho1 : OwnS w w13 v3 x1_1 := ⟨by simpa using hown3, fun x hx => HSZ.out x (by simp [hx])⟩
   clear hown3 hgrow3
   refine hK.out _ _ ?_ (fun hHeld => ?_)
   ·
    exact ⟨HB1.out _ (by first | exact hka2 | exact hka1 | exact Kept.ofBel bl), HB2.out _ (by first | exact hka2 | exact hka1 | exact Kept.ofBel bl)⟩
   clear hK K
   (try simp only [Act.put, List.setIfInBounds_toArray, List.set_cons_zero, List.set_cons_succ, List.getElem_toArray, List.getElem_cons_zero, List.getElem_cons_succ])
   refine wpAnyH_ready (rs := [6]) (by kernel_rfl) (by simp) ?_
   refine AllReadyH.cons (o := _) rfl (fun K hK => ?_) AllReadyH.nil
   rw [if_pos (by rfl)]
   refine wp_append_own _ (.tmp 29) (.tmp 31) 25 rfl w.heap.size 9 i0 (.string ByteArray.empty) 1 16 Tryd.underlying25 hi0 iz0 iz1 iz2 rfl (by decide) _ _ _ rfl ho1.1 ad2 x1_2.length C1_2 (x1_2.map Value.string) rfl (by simp) (row_news (Row.bel bl GR1_2.out)) (by intro u hu; obtain ⟨s, -, rfl⟩ := List.mem_map.1 hu; rfl) (by unfold maxLen; (try simp); omega) (by (try simp); omega) (by have h := hbB1.size; omega) ?_
   intro v6 w16 hown6 hgrow6 _
   have hka2 : Kept (w1.alloc (.cells #[.string x1_0, .slice (some ad1) x1_1.length C1_1, .slice (some ad2) x1_2.length C1_2, .int .i64 x1_3, .string x1_4, .int .i64 x1_5, .int .i64 x1_6, .slice A1_7 x1_7.length C1_7, .int .i64 x1_8] 44)) w16 := Kept.trans hka1 (Kept.grown ho1 hgrow6)
   have hbB2 : Bel w w16 := Below.grown hbB1 hgrow6 (by have h := hbB1.size; exact h) (OwnS.base ho1)
   have ho2 : OwnS w w16 v6 (x1_1 ++ x1_2) := ⟨by simpa using hown6, fun x hx => HSZ.out x (by simpa using hx)⟩
   clear hown6 hgrow6
   refine hK.out _ _ ?_ (fun hHeld => ?_)
   ·
    exact ⟨HB1.out _ (by first | exact hka2 | exact hka1 | exact Kept.ofBel bl), HB2.out _ (by first | exact hka2 | exact hka1 | exact Kept.ofBel bl)⟩
   clear hK K
   (try simp only [Act.put, List.setIfInBounds_toArray, List.set_cons_zero, List.set_cons_succ, List.getElem_toArray, List.getElem_cons_zero, List.getElem_cons_succ])
   refine tkI 7 ?_
   refine wpAnyH_done (by kernel_rfl) ?_ _
   have e0 := HU0.out _ hka2
   have e1 := HU1.out _ hka2
   have e2 := HU2.out _ hka2
   have q3 := HB3.out _ hka2
   have q4 := HB4.out _ hka2
   have q5 := HB5.out _ hka2
   have q6 := HB6.out _ hka2
   have q7 := HB7.out _ hka2
   have HO2 := hide ho2
   have HXE := hide (show x1_1 ++ x1_2 = x1_1 ++ x1_2 by rfl)
   clear ho2 ho1 ho0
   go_wp2_with (go_at_call 16; refine (l9Collect_any (TExpr.mk x1_3 x1_4 x1_5 x1_6 x1_7) R G P S w _ _ _ _ (x1_1 ++ x1_2) HT.out HU.out HVB.out bl (by rw [← HXE.out]; exact OwnS.bel HO2.out bl) (by have h := HP1.out.2.2.2.1; simp; omega) HP1.out.2.2.1).mono ?_; rintro e w9 ⟨v9, rfl, ho9, hb9, -⟩)
   all_goals
    go_returns
    exact ⟨_, rfl, by rw [HLL.out]; exact OwnS.bel ho9 bl, Bel.trans hb9 bl⟩
end Go.Proofs.YtdacpljinffnaaaDoor
namespace Go.Proofs.YtdacpljinffnaaaDoor
open Go.RowKit
set_option maxRecDepth 8000 in
set_option maxHeartbeats 8000000 in
theorem implLoc_any : LocC 14 := by
 intro R G P m hm S w us hsp hu hwt hval
 have HT := hide hsp
 have HU := hide hu
 have HW := hide hwt
 have HVAL := hide hval
 have HPP := hide (proc_parts (proc_ok hval hm))
 obtain ⟨A0, c0, A1, c1, A2, c2, rfl, -, -, g2⟩ := TUnit.vals hu
 have HRP := hide g2
 have hlp := g2.1
 have hcp := g2.2.1
 simp only [List.length_map] at hlp
 unfold maxLen at hcp
 clear hsp hu hwt hval g2
 obtain ⟨i0, hi0, iz0, iz1, iz2⟩ := info_parts infoStr
 have hbw : Bel w w := Bel.refl w
 (obtain ⟨b1, o1, x1_0, x1_1, x1_2, x1_3, x1_4, x1_5, x1_6, x1_7, x1_8, A1_1, C1_1, A1_2, C1_2, A1_7, C1_7, hA1, hS1, hl1, hx1, hv1, g1_0, g1_1, g1_2, g1_3, g1_4, g1_5, g1_6, g1_7, g1_8, c1_0, c1_1, c1_2, c1_3, c1_4, c1_5, c1_6, c1_7, c1_8⟩ := TProcedure.at HRP.out m hm; subst hA1; have HV1 := hide (Dat.HoldVals.bel hbw hv1); have hh1 := hbw.box b1 hl1; have hw1 := Nat.lt_of_lt_of_le hl1 (Bel.size hbw); replace c1_0 := (hh1 _).trans c1_0; replace c1_1 := (hh1 _).trans c1_1; replace c1_2 := (hh1 _).trans c1_2; replace c1_3 := (hh1 _).trans c1_3; replace c1_4 := (hh1 _).trans c1_4; replace c1_5 := (hh1 _).trans c1_5; replace c1_6 := (hh1 _).trans c1_6; replace c1_7 := (hh1 _).trans c1_7; replace c1_8 := (hh1 _).trans c1_8; have HX1 := hide hx1; have GR1_1 := hide g1_1; have GR1_2 := hide g1_2; have GR1_7 := hide g1_7; clear hh1 hv1 hx1 hS1 g1_1 g1_2 g1_7)
 have hne1 : ¬ b1 = w.heap.size := by omega
 have HQ := hide (show P[m].pars = x1_1 ∧ P[m].locs = x1_2 ∧ P[m].body = (TExpr.mk x1_3 x1_4 x1_5 x1_6 x1_7) by rw [HX1.out]; exact ⟨rfl, rfl, rfl⟩)
 have HP1 := hide (show x1_1.length ≤ 6 ∧ x1_2.length ≤ 8 ∧ (TExpr.mk x1_3 x1_4 x1_5 x1_6 x1_7).vld = true ∧ (TExpr.mk x1_3 x1_4 x1_5 x1_6 x1_7).cnt ≤ 600 ∧ x1_1.all nameB = true ∧ x1_2.all nameB = true by have h := HPP.out; rw [HQ.out.1, HQ.out.2.1, HQ.out.2.2] at h; exact h)
 have HLL := hide (show locL R G P P[m] = (TExpr.mk x1_3 x1_4 x1_5 x1_6 x1_7).col (outO R G P) (x1_1 ++ x1_2) by unfold locL; rw [HQ.out.1, HQ.out.2.1, HQ.out.2.2])
 have HVB := hide (TExpr.vals_mk g1_3 g1_4 g1_5 g1_6 GR1_7.out)
 have h61 := HP1.out.1
 have h82 := HP1.out.2.1
 have hmi : (0 : Int) ≤ (m : Int) := by omega
 have hmp : decide ((P.length : Int) ≤ (m : Int)) = false := by simp; omega
 have hmp2 : decide (P.length ≤ m) = false := by simp; omega
 have hm0 : decide ((m : Int) < 0) = false := by simp
 have hmlt : (m : Int) < (P.length : Int) := by omega
 have HSZ := hide (show ∀ x ∈ x1_1 ++ x1_2, x.size ≤ maxLen from fun x hx => name_size (by rcases List.mem_append.1 hx with h | h; exact List.all_eq_true.1 HP1.out.2.2.2.2.1 x h; exact List.all_eq_true.1 HP1.out.2.2.2.2.2 x h))
 unfold maxLen at g1_0 g1_4
 go_enter Tryd.func14, Tryd.ntmps14
 go_upto_region 2 with (fail)
 have hb0 : Bel w ((w.alloc (.cells #[.slice A0 R.length c0, .slice A1 G.length c1, .slice (some ⟨b1, o1, none⟩) P.length c2] 28)).alloc (.cells #[.string x1_0, .slice A1_1 x1_1.length C1_1, .slice A1_2 x1_2.length C1_2, .int .i64 x1_3, .string x1_4, .int .i64 x1_5, .int .i64 x1_6, .slice A1_7 x1_7.length C1_7, .int .i64 x1_8] 44)) := bl
 have hz0 := hb0.size
 have hlw : w.heap.size < (w.alloc (.cells #[.slice A0 R.length c0, .slice A1 G.length c1, .slice (some ⟨b1, o1, none⟩) P.length c2] 28)).heap.size := by simp
 have HBX := hide (show ((w.alloc (.cells #[.slice A0 R.length c0, .slice A1 G.length c1, .slice (some ⟨b1, o1, none⟩) P.length c2] 28)).alloc (.cells #[.string x1_0, .slice A1_1 x1_1.length C1_1, .slice A1_2 x1_2.length C1_2, .int .i64 x1_3, .string x1_4, .int .i64 x1_5, .int .i64 x1_6, .slice A1_7 x1_7.length C1_7, .int .i64 x1_8] 44)).heap[w.heap.size + 1]? = some (Obj.cells #[.string x1_0, .slice A1_1 x1_1.length C1_1, .slice A1_2 x1_2.length C1_2, .int .i64 x1_3, .string x1_4, .int .i64 x1_5, .int .i64 x1_6, .slice A1_7 x1_7.length C1_7, .int .i64 x1_8] 44) by have h := heap_alloc_new (w.alloc (.cells #[.slice A0 R.length c0, .slice A1 G.length c1, .slice (some ⟨b1, o1, none⟩) P.length c2] 28)) (.cells #[.string x1_0, .slice A1_1 x1_1.length C1_1, .slice A1_2 x1_2.length C1_2, .int .i64 x1_3, .string x1_4, .int .i64 x1_5, .int .i64 x1_6, .slice A1_7 x1_7.length C1_7, .int .i64 x1_8] 44); simpa using h)
 have HUX := hide (show (w.alloc (.cells #[.slice A0 R.length c0, .slice A1 G.length c1, .slice (some ⟨b1, o1, none⟩) P.length c2] 28)).heap[w.heap.size]? = some (Obj.cells #[.slice A0 R.length c0, .slice A1 G.length c1, .slice (some ⟨b1, o1, none⟩) P.length c2] 28) by exact heap_alloc_new _ _)
 have HUX2 := hide (show ((w.alloc (.cells #[.slice A0 R.length c0, .slice A1 G.length c1, .slice (some ⟨b1, o1, none⟩) P.length c2] 28)).alloc (.cells #[.string x1_0, .slice A1_1 x1_1.length C1_1, .slice A1_2 x1_2.length C1_2, .int .i64 x1_3, .string x1_4, .int .i64 x1_5, .int .i64 x1_6, .slice A1_7 x1_7.length C1_7, .int .i64 x1_8] 44)).heap[w.heap.size]? = some (Obj.cells #[.slice A0 R.length c0, .slice A1 G.length c1, .slice (some ⟨b1, o1, none⟩) P.length c2] 28) from (heap_alloc_old _ _ hlw).trans HUX.out)
 have HB1 := hide (fun (wx : World) (h : Kept ((w.alloc (.cells #[.slice A0 R.length c0, .slice A1 G.length c1, .slice (some ⟨b1, o1, none⟩) P.length c2] 28)).alloc (.cells #[.string x1_0, .slice A1_1 x1_1.length C1_1, .slice A1_2 x1_2.length C1_2, .int .i64 x1_3, .string x1_4, .int .i64 x1_5, .int .i64 x1_6, .slice A1_7 x1_7.length C1_7, .int .i64 x1_8] 44)) wx) => show wx.cell? ⟨w.heap.size + 1, 1, none⟩ = some (.slice A1_1 x1_1.length C1_1) from (Kept.box h HBX.out (by decide) 1).trans (by simp))
 have HB2 := hide (fun (wx : World) (h : Kept ((w.alloc (.cells #[.slice A0 R.length c0, .slice A1 G.length c1, .slice (some ⟨b1, o1, none⟩) P.length c2] 28)).alloc (.cells #[.string x1_0, .slice A1_1 x1_1.length C1_1, .slice A1_2 x1_2.length C1_2, .int .i64 x1_3, .string x1_4, .int .i64 x1_5, .int .i64 x1_6, .slice A1_7 x1_7.length C1_7, .int .i64 x1_8] 44)) wx) => show wx.cell? ⟨w.heap.size + 1, 2, none⟩ = some (.slice A1_2 x1_2.length C1_2) from (Kept.box h HBX.out (by decide) 2).trans (by simp))
 have HB3 := hide (fun (wx : World) (h : Kept ((w.alloc (.cells #[.slice A0 R.length c0, .slice A1 G.length c1, .slice (some ⟨b1, o1, none⟩) P.length c2] 28)).alloc (.cells #[.string x1_0, .slice A1_1 x1_1.length C1_1, .slice A1_2 x1_2.length C1_2, .int .i64 x1_3, .string x1_4, .int .i64 x1_5, .int .i64 x1_6, .slice A1_7 x1_7.length C1_7, .int .i64 x1_8] 44)) wx) => show wx.cell? ⟨w.heap.size + 1, 3, none⟩ = some (.int .i64 x1_3) from (Kept.box h HBX.out (by decide) 3).trans (by simp))
 have HB4 := hide (fun (wx : World) (h : Kept ((w.alloc (.cells #[.slice A0 R.length c0, .slice A1 G.length c1, .slice (some ⟨b1, o1, none⟩) P.length c2] 28)).alloc (.cells #[.string x1_0, .slice A1_1 x1_1.length C1_1, .slice A1_2 x1_2.length C1_2, .int .i64 x1_3, .string x1_4, .int .i64 x1_5, .int .i64 x1_6, .slice A1_7 x1_7.length C1_7, .int .i64 x1_8] 44)) wx) => show wx.cell? ⟨w.heap.size + 1, 4, none⟩ = some (.string x1_4) from (Kept.box h HBX.out (by decide) 4).trans (by simp))
 have HB5 := hide (fun (wx : World) (h : Kept ((w.alloc (.cells #[.slice A0 R.length c0, .slice A1 G.length c1, .slice (some ⟨b1, o1, none⟩) P.length c2] 28)).alloc (.cells #[.string x1_0, .slice A1_1 x1_1.length C1_1, .slice A1_2 x1_2.length C1_2, .int .i64 x1_3, .string x1_4, .int .i64 x1_5, .int .i64 x1_6, .slice A1_7 x1_7.length C1_7, .int .i64 x1_8] 44)) wx) => show wx.cell? ⟨w.heap.size + 1, 5, none⟩ = some (.int .i64 x1_5) from (Kept.box h HBX.out (by decide) 5).trans (by simp))
 have HB6 := hide (fun (wx : World) (h : Kept ((w.alloc (.cells #[.slice A0 R.length c0, .slice A1 G.length c1, .slice (some ⟨b1, o1, none⟩) P.length c2] 28)).alloc (.cells #[.string x1_0, .slice A1_1 x1_1.length C1_1, .slice A1_2 x1_2.length C1_2, .int .i64 x1_3, .string x1_4, .int .i64 x1_5, .int .i64 x1_6, .slice A1_7 x1_7.length C1_7, .int .i64 x1_8] 44)) wx) => show wx.cell? ⟨w.heap.size + 1, 6, none⟩ = some (.int .i64 x1_6) from (Kept.box h HBX.out (by decide) 6).trans (by simp))
 have HB7 := hide (fun (wx : World) (h : Kept ((w.alloc (.cells #[.slice A0 R.length c0, .slice A1 G.length c1, .slice (some ⟨b1, o1, none⟩) P.length c2] 28)).alloc (.cells #[.string x1_0, .slice A1_1 x1_1.length C1_1, .slice A1_2 x1_2.length C1_2, .int .i64 x1_3, .string x1_4, .int .i64 x1_5, .int .i64 x1_6, .slice A1_7 x1_7.length C1_7, .int .i64 x1_8] 44)) wx) => show wx.cell? ⟨w.heap.size + 1, 7, none⟩ = some (.slice A1_7 x1_7.length C1_7) from (Kept.box h HBX.out (by decide) 7).trans (by simp))
 have HU0 := hide (fun (wx : World) (h : Kept ((w.alloc (.cells #[.slice A0 R.length c0, .slice A1 G.length c1, .slice (some ⟨b1, o1, none⟩) P.length c2] 28)).alloc (.cells #[.string x1_0, .slice A1_1 x1_1.length C1_1, .slice A1_2 x1_2.length C1_2, .int .i64 x1_3, .string x1_4, .int .i64 x1_5, .int .i64 x1_6, .slice A1_7 x1_7.length C1_7, .int .i64 x1_8] 44)) wx) => show wx.cell? ⟨w.heap.size, 0, none⟩ = some (.slice A0 R.length c0) from (Kept.box h HUX2.out (by decide) 0).trans (by simp [World.cell?, HUX2.out]))
 have HU1 := hide (fun (wx : World) (h : Kept ((w.alloc (.cells #[.slice A0 R.length c0, .slice A1 G.length c1, .slice (some ⟨b1, o1, none⟩) P.length c2] 28)).alloc (.cells #[.string x1_0, .slice A1_1 x1_1.length C1_1, .slice A1_2 x1_2.length C1_2, .int .i64 x1_3, .string x1_4, .int .i64 x1_5, .int .i64 x1_6, .slice A1_7 x1_7.length C1_7, .int .i64 x1_8] 44)) wx) => show wx.cell? ⟨w.heap.size, 1, none⟩ = some (.slice A1 G.length c1) from (Kept.box h HUX2.out (by decide) 1).trans (by simp [World.cell?, HUX2.out]))
 have HU2 := hide (fun (wx : World) (h : Kept ((w.alloc (.cells #[.slice A0 R.length c0, .slice A1 G.length c1, .slice (some ⟨b1, o1, none⟩) P.length c2] 28)).alloc (.cells #[.string x1_0, .slice A1_1 x1_1.length C1_1, .slice A1_2 x1_2.length C1_2, .int .i64 x1_3, .string x1_4, .int .i64 x1_5, .int .i64 x1_6, .slice A1_7 x1_7.length C1_7, .int .i64 x1_8] 44)) wx) => show wx.cell? ⟨w.heap.size, 2, none⟩ = some (.slice (some ⟨b1, o1, none⟩) P.length c2) from (Kept.box h HUX2.out (by decide) 2).trans (by simp [World.cell?, HUX2.out]))
 by_cases hp1 : x1_1 = []
 case pos => as_aux_lemma =>
  have HN1 := hide (show x1_1.length = 0 by rw [hp1]; rfl)
  have HPP1 := hide hp1
  clear hp1
  by_cases hp2 : x1_2 = []
  case pos => as_aux_lemma =>
   have HN2 := hide (show x1_2.length = 0 by rw [hp2]; rfl)
   have HPP2 := hide hp2
   clear hp2
   refine wp_region_held_drew (S := fun w' => w'.cell? ⟨w.heap.size + 1, 1, none⟩ = some (.slice A1_1 x1_1.length C1_1) ∧ w'.cell? ⟨w.heap.size + 1, 2, none⟩ = some (.slice A1_2 x1_2.length C1_2)) (by kernel_rfl) ?_ (fun hHeld => ?_)
   ·
    exact ⟨HB1.out _ (by first | exact hka2 | exact hka1 | exact Kept.ofBel bl), HB2.out _ (by first | exact hka2 | exact hka1 | exact Kept.ofBel bl)⟩
   refine tkI 1 ?_
   refine tkI 2 ?_
   refine tkI 4 ?_
   refine tkI 5 ?_
   refine wpAnyH_ready (rs := [0]) (by kernel_rfl) (by simp) ?_
   refine AllReadyH.cons (o := _) rfl (fun K hK => ?_) AllReadyH.nil
   go_simp
   clear hHeld
   have hbs : Bel ((w.alloc (.cells #[.slice A0 R.length c0, .slice A1 G.length c1, .slice (some ⟨b1, o1, none⟩) P.length c2] 28)).alloc (.cells #[.string x1_0, .slice A1_1 x1_1.length C1_1, .slice A1_2 x1_2.length C1_2, .int .i64 x1_3, .string x1_4, .int .i64 x1_5, .int .i64 x1_6, .slice A1_7 x1_7.length C1_7, .int .i64 x1_8] 44)) _ := (show Bel ((w.alloc (.cells #[.slice A0 R.length c0, .slice A1 G.length c1, .slice (some ⟨b1, o1, none⟩) P.length c2] 28)).alloc (.cells #[.string x1_0, .slice A1_1 x1_1.length C1_1, .slice A1_2 x1_2.length C1_2, .int .i64 x1_3, .string x1_4, .int .i64 x1_5, .int .i64 x1_6, .slice A1_7 x1_7.length C1_7, .int .i64 x1_8] 44)) ((((w.alloc (.cells #[.slice A0 R.length c0, .slice A1 G.length c1, .slice (some ⟨b1, o1, none⟩) P.length c2] 28)).alloc (.cells #[.string x1_0, .slice A1_1 x1_1.length C1_1, .slice A1_2 x1_2.length C1_2, .int .i64 x1_3, .string x1_4, .int .i64 x1_5, .int .i64 x1_6, .slice A1_7 x1_7.length C1_7, .int .i64 x1_8] 44)).alloc (.cells #[] 9)).drew) from bl)
   have ho0 : OwnS w ((((w.alloc (.cells #[.slice A0 R.length c0, .slice A1 G.length c1, .slice (some ⟨b1, o1, none⟩) P.length c2] 28)).alloc (.cells #[.string x1_0, .slice A1_1 x1_1.length C1_1, .slice A1_2 x1_2.length C1_2, .int .i64 x1_3, .string x1_4, .int .i64 x1_5, .int .i64 x1_6, .slice A1_7 x1_7.length C1_7, .int .i64 x1_8] 44)).alloc (.cells #[] 9)).drew) (.slice (some ⟨w.heap.size + 1 + 1, 0, none⟩) 0 0) [] := OwnS.bel (show OwnS w (((w.alloc (.cells #[.slice A0 R.length c0, .slice A1 G.length c1, .slice (some ⟨b1, o1, none⟩) P.length c2] 28)).alloc (.cells #[.string x1_0, .slice A1_1 x1_1.length C1_1, .slice A1_2 x1_2.length C1_2, .int .i64 x1_3, .string x1_4, .int .i64 x1_5, .int .i64 x1_6, .slice A1_7 x1_7.length C1_7, .int .i64 x1_8] 44)).alloc (.cells #[] 9)) (.slice (some ⟨w.heap.size + 1 + 1, 0, none⟩) 0 0) [] from ⟨by have h := World.ownsRow_made (base := w.heap.size) (e := 9) (size := 1) ((w.alloc (.cells #[.slice A0 R.length c0, .slice A1 G.length c1, .slice (some ⟨b1, o1, none⟩) P.length c2] 28)).alloc (.cells #[.string x1_0, .slice A1_1 x1_1.length C1_1, .slice A1_2 x1_2.length C1_2, .int .i64 x1_3, .string x1_4, .int .i64 x1_5, .int .i64 x1_6, .slice A1_7 x1_7.length C1_7, .int .i64 x1_8] 44)) #[] 0 (by have h := hb0.size; exact h) (by unfold maxLen; omega) rfl; simpa using h, fun x hx => by cases hx⟩) bl
   refine hK.out _ _ ?_ (fun hHeld => ?_)
   ·
    exact ⟨HB1.out _ (by first | exact hka2 | exact hka1 | exact Kept.ofBel bl), HB2.out _ (by first | exact hka2 | exact hka1 | exact Kept.ofBel bl)⟩
   clear hK K
   (try simp only [Act.put, List.setIfInBounds_toArray, List.set_cons_zero, List.set_cons_succ, List.getElem_toArray, List.getElem_cons_zero, List.getElem_cons_succ])
   refine wpAnyH_ready (rs := [3]) (by kernel_rfl) (by simp) ?_
   refine AllReadyH.cons (o := _) rfl (fun K hK => ?_) AllReadyH.nil
   rw [if_pos (by rfl)]
   refine wp_append_zero (.tmp 12) (.tmp 14) 25 rfl w.heap.size 9 i0 1 Tryd.underlying25 hi0 _ _ _ rfl ho0.1 _ _ _ rfl HN1.out ?_
   have ho1 := ho0
   have hka1 : Kept ((w.alloc (.cells #[.slice A0 R.length c0, .slice A1 G.length c1, .slice (some ⟨b1, o1, none⟩) P.length c2] 28)).alloc (.cells #[.string x1_0, .slice A1_1 x1_1.length C1_1, .slice A1_2 x1_2.length C1_2, .int .i64 x1_3, .string x1_4, .int .i64 x1_5, .int .i64 x1_6, .slice A1_7 x1_7.length C1_7, .int .i64 x1_8] 44)) ((((w.alloc (.cells #[.slice A0 R.length c0, .slice A1 G.length c1, .slice (some ⟨b1, o1, none⟩) P.length c2] 28)).alloc (.cells #[.string x1_0, .slice A1_1 x1_1.length C1_1, .slice A1_2 x1_2.length C1_2, .int .i64 x1_3, .string x1_4, .int .i64 x1_5, .int .i64 x1_6, .slice A1_7 x1_7.length C1_7, .int .i64 x1_8] 44)).alloc (.cells #[] 9)).drew) := Kept.ofBel hbs
   have hbB1 : Bel w ((((w.alloc (.cells #[.slice A0 R.length c0, .slice A1 G.length c1, .slice (some ⟨b1, o1, none⟩) P.length c2] 28)).alloc (.cells #[.string x1_0, .slice A1_1 x1_1.length C1_1, .slice A1_2 x1_2.length C1_2, .int .i64 x1_3, .string x1_4, .int .i64 x1_5, .int .i64 x1_6, .slice A1_7 x1_7.length C1_7, .int .i64 x1_8] 44)).alloc (.cells #[] 9)).drew) := Bel.trans hb0 hbs
   refine hK.out _ _ ?_ (fun hHeld => ?_)
   ·
    exact ⟨HB1.out _ (by first | exact hka2 | exact hka1 | exact Kept.ofBel bl), HB2.out _ (by first | exact hka2 | exact hka1 | exact Kept.ofBel bl)⟩
   clear hK K
   (try simp only [Act.put, List.setIfInBounds_toArray, List.set_cons_zero, List.set_cons_succ, List.getElem_toArray, List.getElem_cons_zero, List.getElem_cons_succ])
   refine wpAnyH_ready (rs := [6]) (by kernel_rfl) (by simp) ?_
   refine AllReadyH.cons (o := _) rfl (fun K hK => ?_) AllReadyH.nil
   rw [if_pos (by rfl)]
   refine wp_append_zero (.tmp 15) (.tmp 17) 25 rfl w.heap.size 9 i0 1 Tryd.underlying25 hi0 _ _ _ rfl ho1.1 _ _ _ rfl HN2.out ?_
   have ho2 := ho1
   have hka2 := hka1
   have hbB2 := hbB1
   refine hK.out _ _ ?_ (fun hHeld => ?_)
   ·
    exact ⟨HB1.out _ (by first | exact hka2 | exact hka1 | exact Kept.ofBel bl), HB2.out _ (by first | exact hka2 | exact hka1 | exact Kept.ofBel bl)⟩
   clear hK K
   (try simp only [Act.put, List.setIfInBounds_toArray, List.set_cons_zero, List.set_cons_succ, List.getElem_toArray, List.getElem_cons_zero, List.getElem_cons_succ])
   refine tkI 7 ?_
   refine wpAnyH_done (by kernel_rfl) ?_ _
   have e0 := HU0.out _ hka2
   have e1 := HU1.out _ hka2
   have e2 := HU2.out _ hka2
   have q3 := HB3.out _ hka2
   have q4 := HB4.out _ hka2
   have q5 := HB5.out _ hka2
   have q6 := HB6.out _ hka2
   have q7 := HB7.out _ hka2
   have HO2 := hide ho2
   have HXE := hide (show ([] : List ByteArray) = x1_1 ++ x1_2 by simp [HPP1.out, HPP2.out])
   clear ho2 ho1 ho0
   go_wp2_with (go_at_call 31; refine (addNames_any (TExpr.mk x1_3 x1_4 x1_5 x1_6 x1_7) R G P S w _ _ _ _ (x1_1 ++ x1_2) HT.out HU.out HVB.out bl (by rw [← HXE.out]; exact OwnS.bel HO2.out bl) (by have h := HP1.out.2.2.2.1; simp; omega) HP1.out.2.2.1).mono ?_; rintro e w9 ⟨v9, rfl, ho9, hb9, -⟩)
   all_goals
    go_returns
    exact ⟨_, rfl, by rw [HLL.out]; exact OwnS.bel ho9 bl, Bel.trans hb9 bl⟩
  case neg => as_aux_lemma =>
   obtain ⟨ad2, rfl⟩ : ∃ ad, A1_2 = some ad := by obtain ⟨b, oo, h, -⟩ := GR1_2.out.2.2 (by simpa [strsD] using hp2); exact ⟨_, h⟩
   refine wp_region_held_drew (S := fun w' => w'.cell? ⟨w.heap.size + 1, 1, none⟩ = some (.slice A1_1 x1_1.length C1_1) ∧ w'.cell? ⟨w.heap.size + 1, 2, none⟩ = some (.slice (some ad2) x1_2.length C1_2)) (by kernel_rfl) ?_ (fun hHeld => ?_)
   ·
    exact ⟨HB1.out _ (by first | exact hka2 | exact hka1 | exact Kept.ofBel bl), HB2.out _ (by first | exact hka2 | exact hka1 | exact Kept.ofBel bl)⟩
   refine tkI 1 ?_
   refine tkI 2 ?_
   refine tkI 4 ?_
   refine tkI 5 ?_
   refine wpAnyH_ready (rs := [0]) (by kernel_rfl) (by simp) ?_
   refine AllReadyH.cons (o := _) rfl (fun K hK => ?_) AllReadyH.nil
   go_simp
   clear hHeld
   have hbs : Bel ((w.alloc (.cells #[.slice A0 R.length c0, .slice A1 G.length c1, .slice (some ⟨b1, o1, none⟩) P.length c2] 28)).alloc (.cells #[.string x1_0, .slice A1_1 x1_1.length C1_1, .slice (some ad2) x1_2.length C1_2, .int .i64 x1_3, .string x1_4, .int .i64 x1_5, .int .i64 x1_6, .slice A1_7 x1_7.length C1_7, .int .i64 x1_8] 44)) _ := (show Bel ((w.alloc (.cells #[.slice A0 R.length c0, .slice A1 G.length c1, .slice (some ⟨b1, o1, none⟩) P.length c2] 28)).alloc (.cells #[.string x1_0, .slice A1_1 x1_1.length C1_1, .slice (some ad2) x1_2.length C1_2, .int .i64 x1_3, .string x1_4, .int .i64 x1_5, .int .i64 x1_6, .slice A1_7 x1_7.length C1_7, .int .i64 x1_8] 44)) ((((w.alloc (.cells #[.slice A0 R.length c0, .slice A1 G.length c1, .slice (some ⟨b1, o1, none⟩) P.length c2] 28)).alloc (.cells #[.string x1_0, .slice A1_1 x1_1.length C1_1, .slice (some ad2) x1_2.length C1_2, .int .i64 x1_3, .string x1_4, .int .i64 x1_5, .int .i64 x1_6, .slice A1_7 x1_7.length C1_7, .int .i64 x1_8] 44)).alloc (.cells #[] 9)).drew) from bl)
   have ho0 : OwnS w ((((w.alloc (.cells #[.slice A0 R.length c0, .slice A1 G.length c1, .slice (some ⟨b1, o1, none⟩) P.length c2] 28)).alloc (.cells #[.string x1_0, .slice A1_1 x1_1.length C1_1, .slice (some ad2) x1_2.length C1_2, .int .i64 x1_3, .string x1_4, .int .i64 x1_5, .int .i64 x1_6, .slice A1_7 x1_7.length C1_7, .int .i64 x1_8] 44)).alloc (.cells #[] 9)).drew) (.slice (some ⟨w.heap.size + 1 + 1, 0, none⟩) 0 0) [] := OwnS.bel (show OwnS w (((w.alloc (.cells #[.slice A0 R.length c0, .slice A1 G.length c1, .slice (some ⟨b1, o1, none⟩) P.length c2] 28)).alloc (.cells #[.string x1_0, .slice A1_1 x1_1.length C1_1, .slice (some ad2) x1_2.length C1_2, .int .i64 x1_3, .string x1_4, .int .i64 x1_5, .int .i64 x1_6, .slice A1_7 x1_7.length C1_7, .int .i64 x1_8] 44)).alloc (.cells #[] 9)) (.slice (some ⟨w.heap.size + 1 + 1, 0, none⟩) 0 0) [] from ⟨by have h := World.ownsRow_made (base := w.heap.size) (e := 9) (size := 1) ((w.alloc (.cells #[.slice A0 R.length c0, .slice A1 G.length c1, .slice (some ⟨b1, o1, none⟩) P.length c2] 28)).alloc (.cells #[.string x1_0, .slice A1_1 x1_1.length C1_1, .slice (some ad2) x1_2.length C1_2, .int .i64 x1_3, .string x1_4, .int .i64 x1_5, .int .i64 x1_6, .slice A1_7 x1_7.length C1_7, .int .i64 x1_8] 44)) #[] 0 (by have h := hb0.size; exact h) (by unfold maxLen; omega) rfl; simpa using h, fun x hx => by cases hx⟩) bl
   refine hK.out _ _ ?_ (fun hHeld => ?_)
   ·
    exact ⟨HB1.out _ (by first | exact hka2 | exact hka1 | exact Kept.ofBel bl), HB2.out _ (by first | exact hka2 | exact hka1 | exact Kept.ofBel bl)⟩
   clear hK K
   (try simp only [Act.put, List.setIfInBounds_toArray, List.set_cons_zero, List.set_cons_succ, List.getElem_toArray, List.getElem_cons_zero, List.getElem_cons_succ])
   refine wpAnyH_ready (rs := [3]) (by kernel_rfl) (by simp) ?_
   refine AllReadyH.cons (o := _) rfl (fun K hK => ?_) AllReadyH.nil
   rw [if_pos (by rfl)]
   refine wp_append_zero (.tmp 12) (.tmp 14) 25 rfl w.heap.size 9 i0 1 Tryd.underlying25 hi0 _ _ _ rfl ho0.1 _ _ _ rfl HN1.out ?_
   have ho1 := ho0
   have hka1 : Kept ((w.alloc (.cells #[.slice A0 R.length c0, .slice A1 G.length c1, .slice (some ⟨b1, o1, none⟩) P.length c2] 28)).alloc (.cells #[.string x1_0, .slice A1_1 x1_1.length C1_1, .slice (some ad2) x1_2.length C1_2, .int .i64 x1_3, .string x1_4, .int .i64 x1_5, .int .i64 x1_6, .slice A1_7 x1_7.length C1_7, .int .i64 x1_8] 44)) ((((w.alloc (.cells #[.slice A0 R.length c0, .slice A1 G.length c1, .slice (some ⟨b1, o1, none⟩) P.length c2] 28)).alloc (.cells #[.string x1_0, .slice A1_1 x1_1.length C1_1, .slice (some ad2) x1_2.length C1_2, .int .i64 x1_3, .string x1_4, .int .i64 x1_5, .int .i64 x1_6, .slice A1_7 x1_7.length C1_7, .int .i64 x1_8] 44)).alloc (.cells #[] 9)).drew) := Kept.ofBel hbs
   have hbB1 : Bel w ((((w.alloc (.cells #[.slice A0 R.length c0, .slice A1 G.length c1, .slice (some ⟨b1, o1, none⟩) P.length c2] 28)).alloc (.cells #[.string x1_0, .slice A1_1 x1_1.length C1_1, .slice (some ad2) x1_2.length C1_2, .int .i64 x1_3, .string x1_4, .int .i64 x1_5, .int .i64 x1_6, .slice A1_7 x1_7.length C1_7, .int .i64 x1_8] 44)).alloc (.cells #[] 9)).drew) := Bel.trans hb0 hbs
   refine hK.out _ _ ?_ (fun hHeld => ?_)
   ·
    exact ⟨HB1.out _ (by first | exact hka2 | exact hka1 | exact Kept.ofBel bl), HB2.out _ (by first | exact hka2 | exact hka1 | exact Kept.ofBel bl)⟩
   clear hK K
   (try simp only [Act.put, List.setIfInBounds_toArray, List.set_cons_zero, List.set_cons_succ, List.getElem_toArray, List.getElem_cons_zero, List.getElem_cons_succ])
   refine wpAnyH_ready (rs := [6]) (by kernel_rfl) (by simp) ?_
   refine AllReadyH.cons (o := _) rfl (fun K hK => ?_) AllReadyH.nil
   rw [if_pos (by rfl)]
   refine wp_append_own _ (.tmp 15) (.tmp 17) 25 rfl w.heap.size 9 i0 (.string ByteArray.empty) 1 16 Tryd.underlying25 hi0 iz0 iz1 iz2 rfl (by decide) _ _ _ rfl ho1.1 ad2 x1_2.length C1_2 (x1_2.map Value.string) rfl (by simp) (row_news (Row.bel bl GR1_2.out)) (by intro u hu; obtain ⟨s, -, rfl⟩ := List.mem_map.1 hu; rfl) (by unfold maxLen; (try simp); omega) (by (try simp); omega) (by have h := hbB1.size; omega) ?_
   intro v6 w16 hown6 hgrow6 _
   have hka2 : Kept ((w.alloc (.cells #[.slice A0 R.length c0, .slice A1 G.length c1, .slice (some ⟨b1, o1, none⟩) P.length c2] 28)).alloc (.cells #[.string x1_0, .slice A1_1 x1_1.length C1_1, .slice (some ad2) x1_2.length C1_2, .int .i64 x1_3, .string x1_4, .int .i64 x1_5, .int .i64 x1_6, .slice A1_7 x1_7.length C1_7, .int .i64 x1_8] 44)) w16 := Kept.trans hka1 (Kept.grown ho1 hgrow6)
   have hbB2 : Bel w w16 := Below.grown hbB1 hgrow6 (by have h := hbB1.size; exact h) (OwnS.base ho1)
   have ho2 : OwnS w w16 v6 (([] : List ByteArray) ++ x1_2) := ⟨by simpa using hown6, fun x hx => HSZ.out x (by simp at hx; simp [hx])⟩
   clear hown6 hgrow6
   refine hK.out _ _ ?_ (fun hHeld => ?_)
   ·
    exact ⟨HB1.out _ (by first | exact hka2 | exact hka1 | exact Kept.ofBel bl), HB2.out _ (by first | exact hka2 | exact hka1 | exact Kept.ofBel bl)⟩
   clear hK K
   (try simp only [Act.put, List.setIfInBounds_toArray, List.set_cons_zero, List.set_cons_succ, List.getElem_toArray, List.getElem_cons_zero, List.getElem_cons_succ])
   refine tkI 7 ?_
   refine wpAnyH_done (by kernel_rfl) ?_ _
   have e0 := HU0.out _ hka2
   have e1 := HU1.out _ hka2
   have e2 := HU2.out _ hka2
   have q3 := HB3.out _ hka2
   have q4 := HB4.out _ hka2
   have q5 := HB5.out _ hka2
   have q6 := HB6.out _ hka2
   have q7 := HB7.out _ hka2
   have HO2 := hide ho2
   have HXE := hide (show ([] : List ByteArray) ++ x1_2 = x1_1 ++ x1_2 by simp [HPP1.out])
   clear ho2 ho1 ho0
   go_wp2_with (go_at_call 31; refine (addNames_any (TExpr.mk x1_3 x1_4 x1_5 x1_6 x1_7) R G P S w _ _ _ _ (x1_1 ++ x1_2) HT.out HU.out HVB.out bl (by rw [← HXE.out]; exact OwnS.bel HO2.out bl) (by have h := HP1.out.2.2.2.1; simp; omega) HP1.out.2.2.1).mono ?_; rintro e w9 ⟨v9, rfl, ho9, hb9, -⟩)
   all_goals
    go_returns
    exact ⟨_, rfl, by rw [HLL.out]; exact OwnS.bel ho9 bl, Bel.trans hb9 bl⟩
 case neg => as_aux_lemma =>
  obtain ⟨ad1, rfl⟩ : ∃ ad, A1_1 = some ad := by obtain ⟨b, oo, h, -⟩ := GR1_1.out.2.2 (by simpa [strsD] using hp1); exact ⟨_, h⟩
  by_cases hp2 : x1_2 = []
  case pos => as_aux_lemma =>
   have HN2 := hide (show x1_2.length = 0 by rw [hp2]; rfl)
   have HPP2 := hide hp2
   clear hp2
   refine wp_region_held_drew (S := fun w' => w'.cell? ⟨w.heap.size + 1, 1, none⟩ = some (.slice (some ad1) x1_1.length C1_1) ∧ w'.cell? ⟨w.heap.size + 1, 2, none⟩ = some (.slice A1_2 x1_2.length C1_2)) (by kernel_rfl) ?_ (fun hHeld => ?_)
   ·
    exact ⟨HB1.out _ (by first | exact hka2 | exact hka1 | exact Kept.ofBel bl), HB2.out _ (by first | exact hka2 | exact hka1 | exact Kept.ofBel bl)⟩
   refine tkI 1 ?_
   refine tkI 2 ?_
   refine tkI 4 ?_
   refine tkI 5 ?_
   refine wpAnyH_ready (rs := [0]) (by kernel_rfl) (by simp) ?_
   refine AllReadyH.cons (o := _) rfl (fun K hK => ?_) AllReadyH.nil
   go_simp
   clear hHeld
   have hbs : Bel ((w.alloc (.cells #[.slice A0 R.length c0, .slice A1 G.length c1, .slice (some ⟨b1, o1, none⟩) P.length c2] 28)).alloc (.cells #[.string x1_0, .slice (some ad1) x1_1.length C1_1, .slice A1_2 x1_2.length C1_2, .int .i64 x1_3, .string x1_4, .int .i64 x1_5, .int .i64 x1_6, .slice A1_7 x1_7.length C1_7, .int .i64 x1_8] 44)) _ := (show Bel ((w.alloc (.cells #[.slice A0 R.length c0, .slice A1 G.length c1, .slice (some ⟨b1, o1, none⟩) P.length c2] 28)).alloc (.cells #[.string x1_0, .slice (some ad1) x1_1.length C1_1, .slice A1_2 x1_2.length C1_2, .int .i64 x1_3, .string x1_4, .int .i64 x1_5, .int .i64 x1_6, .slice A1_7 x1_7.length C1_7, .int .i64 x1_8] 44)) ((((w.alloc (.cells #[.slice A0 R.length c0, .slice A1 G.length c1, .slice (some ⟨b1, o1, none⟩) P.length c2] 28)).alloc (.cells #[.string x1_0, .slice (some ad1) x1_1.length C1_1, .slice A1_2 x1_2.length C1_2, .int .i64 x1_3, .string x1_4, .int .i64 x1_5, .int .i64 x1_6, .slice A1_7 x1_7.length C1_7, .int .i64 x1_8] 44)).alloc (.cells #[] 9)).drew) from bl)
   have ho0 : OwnS w ((((w.alloc (.cells #[.slice A0 R.length c0, .slice A1 G.length c1, .slice (some ⟨b1, o1, none⟩) P.length c2] 28)).alloc (.cells #[.string x1_0, .slice (some ad1) x1_1.length C1_1, .slice A1_2 x1_2.length C1_2, .int .i64 x1_3, .string x1_4, .int .i64 x1_5, .int .i64 x1_6, .slice A1_7 x1_7.length C1_7, .int .i64 x1_8] 44)).alloc (.cells #[] 9)).drew) (.slice (some ⟨w.heap.size + 1 + 1, 0, none⟩) 0 0) [] := OwnS.bel (show OwnS w (((w.alloc (.cells #[.slice A0 R.length c0, .slice A1 G.length c1, .slice (some ⟨b1, o1, none⟩) P.length c2] 28)).alloc (.cells #[.string x1_0, .slice (some ad1) x1_1.length C1_1, .slice A1_2 x1_2.length C1_2, .int .i64 x1_3, .string x1_4, .int .i64 x1_5, .int .i64 x1_6, .slice A1_7 x1_7.length C1_7, .int .i64 x1_8] 44)).alloc (.cells #[] 9)) (.slice (some ⟨w.heap.size + 1 + 1, 0, none⟩) 0 0) [] from ⟨by have h := World.ownsRow_made (base := w.heap.size) (e := 9) (size := 1) ((w.alloc (.cells #[.slice A0 R.length c0, .slice A1 G.length c1, .slice (some ⟨b1, o1, none⟩) P.length c2] 28)).alloc (.cells #[.string x1_0, .slice (some ad1) x1_1.length C1_1, .slice A1_2 x1_2.length C1_2, .int .i64 x1_3, .string x1_4, .int .i64 x1_5, .int .i64 x1_6, .slice A1_7 x1_7.length C1_7, .int .i64 x1_8] 44)) #[] 0 (by have h := hb0.size; exact h) (by unfold maxLen; omega) rfl; simpa using h, fun x hx => by cases hx⟩) bl
   refine hK.out _ _ ?_ (fun hHeld => ?_)
   ·
    exact ⟨HB1.out _ (by first | exact hka2 | exact hka1 | exact Kept.ofBel bl), HB2.out _ (by first | exact hka2 | exact hka1 | exact Kept.ofBel bl)⟩
   clear hK K
   (try simp only [Act.put, List.setIfInBounds_toArray, List.set_cons_zero, List.set_cons_succ, List.getElem_toArray, List.getElem_cons_zero, List.getElem_cons_succ])
   refine wpAnyH_ready (rs := [3]) (by kernel_rfl) (by simp) ?_
   refine AllReadyH.cons (o := _) rfl (fun K hK => ?_) AllReadyH.nil
   rw [if_pos (by rfl)]
   refine wp_append_own _ (.tmp 12) (.tmp 14) 25 rfl w.heap.size 9 i0 (.string ByteArray.empty) 1 16 Tryd.underlying25 hi0 iz0 iz1 iz2 rfl (by decide) _ _ _ rfl ho0.1 ad1 x1_1.length C1_1 (x1_1.map Value.string) rfl (by simp) (row_news (Row.bel bl GR1_1.out)) (by intro u hu; obtain ⟨s, -, rfl⟩ := List.mem_map.1 hu; rfl) (by unfold maxLen; (try simp); omega) (by (try simp); omega) (by have h := hbs.size; omega) ?_
   intro v3 w13 hown3 hgrow3 _
   have hka1 : Kept ((w.alloc (.cells #[.slice A0 R.length c0, .slice A1 G.length c1, .slice (some ⟨b1, o1, none⟩) P.length c2] 28)).alloc (.cells #[.string x1_0, .slice (some ad1) x1_1.length C1_1, .slice A1_2 x1_2.length C1_2, .int .i64 x1_3, .string x1_4, .int .i64 x1_5, .int .i64 x1_6, .slice A1_7 x1_7.length C1_7, .int .i64 x1_8] 44)) w13 := Kept.trans (Kept.ofBel hbs) (Kept.grown ho0 hgrow3)
   have hbB1 : Bel w w13 := Below.grown (Bel.trans hb0 hbs) hgrow3 (by have h := (Bel.trans hb0 hbs).size; exact h) (OwnS.base ho0)
   have ho1 : OwnS w w13 v3 x1_1 := ⟨by simpa using hown3, fun x hx => HSZ.out x (by simp [hx])⟩
   clear hown3 hgrow3
   refine hK.out _ _ ?_ (fun hHeld => ?_)
   ·
    exact ⟨HB1.out _ (by first | exact hka2 | exact hka1 | exact Kept.ofBel bl), HB2.out _ (by first | exact hka2 | exact hka1 | exact Kept.ofBel bl)⟩
   clear hK K
   (try simp only [Act.put, List.setIfInBounds_toArray, List.set_cons_zero, List.set_cons_succ, List.getElem_toArray, List.getElem_cons_zero, List.getElem_cons_succ])
   refine wpAnyH_ready (rs := [6]) (by kernel_rfl) (by simp) ?_
   refine AllReadyH.cons (o := _) rfl (fun K hK => ?_) AllReadyH.nil
   rw [if_pos (by rfl)]
   refine wp_append_zero (.tmp 15) (.tmp 17) 25 rfl w.heap.size 9 i0 1 Tryd.underlying25 hi0 _ _ _ rfl ho1.1 _ _ _ rfl HN2.out ?_
   have ho2 := ho1
   have hka2 := hka1
   have hbB2 := hbB1
   refine hK.out _ _ ?_ (fun hHeld => ?_)
   ·
    exact ⟨HB1.out _ (by first | exact hka2 | exact hka1 | exact Kept.ofBel bl), HB2.out _ (by first | exact hka2 | exact hka1 | exact Kept.ofBel bl)⟩
   clear hK K
   (try simp only [Act.put, List.setIfInBounds_toArray, List.set_cons_zero, List.set_cons_succ, List.getElem_toArray, List.getElem_cons_zero, List.getElem_cons_succ])
   refine tkI 7 ?_
   refine wpAnyH_done (by kernel_rfl) ?_ _
   have e0 := HU0.out _ hka2
   have e1 := HU1.out _ hka2
   have e2 := HU2.out _ hka2
   have q3 := HB3.out _ hka2
   have q4 := HB4.out _ hka2
   have q5 := HB5.out _ hka2
   have q6 := HB6.out _ hka2
   have q7 := HB7.out _ hka2
   have HO2 := hide ho2
   have HXE := hide (show x1_1 = x1_1 ++ x1_2 by simp [HPP2.out])
   clear ho2 ho1 ho0
   go_wp2_with (go_at_call 31; refine (addNames_any (TExpr.mk x1_3 x1_4 x1_5 x1_6 x1_7) R G P S w _ _ _ _ (x1_1 ++ x1_2) HT.out HU.out HVB.out bl (by rw [← HXE.out]; exact OwnS.bel HO2.out bl) (by have h := HP1.out.2.2.2.1; simp; omega) HP1.out.2.2.1).mono ?_; rintro e w9 ⟨v9, rfl, ho9, hb9, -⟩)
   all_goals
    go_returns
    exact ⟨_, rfl, by rw [HLL.out]; exact OwnS.bel ho9 bl, Bel.trans hb9 bl⟩
  case neg => as_aux_lemma =>
   obtain ⟨ad2, rfl⟩ : ∃ ad, A1_2 = some ad := by obtain ⟨b, oo, h, -⟩ := GR1_2.out.2.2 (by simpa [strsD] using hp2); exact ⟨_, h⟩
   refine wp_region_held_drew (S := fun w' => w'.cell? ⟨w.heap.size + 1, 1, none⟩ = some (.slice (some ad1) x1_1.length C1_1) ∧ w'.cell? ⟨w.heap.size + 1, 2, none⟩ = some (.slice (some ad2) x1_2.length C1_2)) (by kernel_rfl) ?_ (fun hHeld => ?_)
   ·
    exact ⟨HB1.out _ (by first | exact hka2 | exact hka1 | exact Kept.ofBel bl), HB2.out _ (by first | exact hka2 | exact hka1 | exact Kept.ofBel bl)⟩
   refine tkI 1 ?_
   refine tkI 2 ?_
   refine tkI 4 ?_
   refine tkI 5 ?_
   refine wpAnyH_ready (rs := [0]) (by kernel_rfl) (by simp) ?_
   refine AllReadyH.cons (o := _) rfl (fun K hK => ?_) AllReadyH.nil
   go_simp
   clear hHeld
   have hbs : Bel ((w.alloc (.cells #[.slice A0 R.length c0, .slice A1 G.length c1, .slice (some ⟨b1, o1, none⟩) P.length c2] 28)).alloc (.cells #[.string x1_0, .slice (some ad1) x1_1.length C1_1, .slice (some ad2) x1_2.length C1_2, .int .i64 x1_3, .string x1_4, .int .i64 x1_5, .int .i64 x1_6, .slice A1_7 x1_7.length C1_7, .int .i64 x1_8] 44)) _ := (show Bel ((w.alloc (.cells #[.slice A0 R.length c0, .slice A1 G.length c1, .slice (some ⟨b1, o1, none⟩) P.length c2] 28)).alloc (.cells #[.string x1_0, .slice (some ad1) x1_1.length C1_1, .slice (some ad2) x1_2.length C1_2, .int .i64 x1_3, .string x1_4, .int .i64 x1_5, .int .i64 x1_6, .slice A1_7 x1_7.length C1_7, .int .i64 x1_8] 44)) ((((w.alloc (.cells #[.slice A0 R.length c0, .slice A1 G.length c1, .slice (some ⟨b1, o1, none⟩) P.length c2] 28)).alloc (.cells #[.string x1_0, .slice (some ad1) x1_1.length C1_1, .slice (some ad2) x1_2.length C1_2, .int .i64 x1_3, .string x1_4, .int .i64 x1_5, .int .i64 x1_6, .slice A1_7 x1_7.length C1_7, .int .i64 x1_8] 44)).alloc (.cells #[] 9)).drew) from bl)
   have ho0 : OwnS w ((((w.alloc (.cells #[.slice A0 R.length c0, .slice A1 G.length c1, .slice (some ⟨b1, o1, none⟩) P.length c2] 28)).alloc (.cells #[.string x1_0, .slice (some ad1) x1_1.length C1_1, .slice (some ad2) x1_2.length C1_2, .int .i64 x1_3, .string x1_4, .int .i64 x1_5, .int .i64 x1_6, .slice A1_7 x1_7.length C1_7, .int .i64 x1_8] 44)).alloc (.cells #[] 9)).drew) (.slice (some ⟨w.heap.size + 1 + 1, 0, none⟩) 0 0) [] := OwnS.bel (show OwnS w (((w.alloc (.cells #[.slice A0 R.length c0, .slice A1 G.length c1, .slice (some ⟨b1, o1, none⟩) P.length c2] 28)).alloc (.cells #[.string x1_0, .slice (some ad1) x1_1.length C1_1, .slice (some ad2) x1_2.length C1_2, .int .i64 x1_3, .string x1_4, .int .i64 x1_5, .int .i64 x1_6, .slice A1_7 x1_7.length C1_7, .int .i64 x1_8] 44)).alloc (.cells #[] 9)) (.slice (some ⟨w.heap.size + 1 + 1, 0, none⟩) 0 0) [] from ⟨by have h := World.ownsRow_made (base := w.heap.size) (e := 9) (size := 1) ((w.alloc (.cells #[.slice A0 R.length c0, .slice A1 G.length c1, .slice (some ⟨b1, o1, none⟩) P.length c2] 28)).alloc (.cells #[.string x1_0, .slice (some ad1) x1_1.length C1_1, .slice (some ad2) x1_2.length C1_2, .int .i64 x1_3, .string x1_4, .int .i64 x1_5, .int .i64 x1_6, .slice A1_7 x1_7.length C1_7, .int .i64 x1_8] 44)) #[] 0 (by have h := hb0.size; exact h) (by unfold maxLen; omega) rfl; simpa using h, fun x hx => by cases hx⟩) bl
   refine hK.out _ _ ?_ (fun hHeld => ?_)
   ·
    exact ⟨HB1.out _ (by first | exact hka2 | exact hka1 | exact Kept.ofBel bl), HB2.out _ (by first | exact hka2 | exact hka1 | exact Kept.ofBel bl)⟩
   clear hK K
   (try simp only [Act.put, List.setIfInBounds_toArray, List.set_cons_zero, List.set_cons_succ, List.getElem_toArray, List.getElem_cons_zero, List.getElem_cons_succ])
   refine wpAnyH_ready (rs := [3]) (by kernel_rfl) (by simp) ?_
   refine AllReadyH.cons (o := _) rfl (fun K hK => ?_) AllReadyH.nil
   rw [if_pos (by rfl)]
   refine wp_append_own _ (.tmp 12) (.tmp 14) 25 rfl w.heap.size 9 i0 (.string ByteArray.empty) 1 16 Tryd.underlying25 hi0 iz0 iz1 iz2 rfl (by decide) _ _ _ rfl ho0.1 ad1 x1_1.length C1_1 (x1_1.map Value.string) rfl (by simp) (row_news (Row.bel bl GR1_1.out)) (by intro u hu; obtain ⟨s, -, rfl⟩ := List.mem_map.1 hu; rfl) (by unfold maxLen; (try simp); omega) (by (try simp); omega) (by have h := hbs.size; omega) ?_
   intro v3 w13 hown3 hgrow3 _
   have hka1 : Kept ((w.alloc (.cells #[.slice A0 R.length c0, .slice A1 G.length c1, .slice (some ⟨b1, o1, none⟩) P.length c2] 28)).alloc (.cells #[.string x1_0, .slice (some ad1) x1_1.length C1_1, .slice (some ad2) x1_2.length C1_2, .int .i64 x1_3, .string x1_4, .int .i64 x1_5, .int .i64 x1_6, .slice A1_7 x1_7.length C1_7, .int .i64 x1_8] 44)) w13 := Kept.trans (Kept.ofBel hbs) (Kept.grown ho0 hgrow3)
   have hbB1 : Bel w w13 := Below.grown (Bel.trans hb0 hbs) hgrow3 (by have h := (Bel.trans hb0 hbs).size; exact h) (OwnS.base ho0)
   have ho1 : OwnS w w13 v3 x1_1 := ⟨by simpa using hown3, fun x hx => HSZ.out x (by simp [hx])⟩
   clear hown3 hgrow3
   refine hK.out _ _ ?_ (fun hHeld => ?_)
   ·
    exact ⟨HB1.out _ (by first | exact hka2 | exact hka1 | exact Kept.ofBel bl), HB2.out _ (by first | exact hka2 | exact hka1 | exact Kept.ofBel bl)⟩
   clear hK K
   (try simp only [Act.put, List.setIfInBounds_toArray, List.set_cons_zero, List.set_cons_succ, List.getElem_toArray, List.getElem_cons_zero, List.getElem_cons_succ])
   refine wpAnyH_ready (rs := [6]) (by kernel_rfl) (by simp) ?_
   refine AllReadyH.cons (o := _) rfl (fun K hK => ?_) AllReadyH.nil
   rw [if_pos (by rfl)]
   refine wp_append_own _ (.tmp 15) (.tmp 17) 25 rfl w.heap.size 9 i0 (.string ByteArray.empty) 1 16 Tryd.underlying25 hi0 iz0 iz1 iz2 rfl (by decide) _ _ _ rfl ho1.1 ad2 x1_2.length C1_2 (x1_2.map Value.string) rfl (by simp) (row_news (Row.bel bl GR1_2.out)) (by intro u hu; obtain ⟨s, -, rfl⟩ := List.mem_map.1 hu; rfl) (by unfold maxLen; (try simp); omega) (by (try simp); omega) (by have h := hbB1.size; omega) ?_
   intro v6 w16 hown6 hgrow6 _
   have hka2 : Kept ((w.alloc (.cells #[.slice A0 R.length c0, .slice A1 G.length c1, .slice (some ⟨b1, o1, none⟩) P.length c2] 28)).alloc (.cells #[.string x1_0, .slice (some ad1) x1_1.length C1_1, .slice (some ad2) x1_2.length C1_2, .int .i64 x1_3, .string x1_4, .int .i64 x1_5, .int .i64 x1_6, .slice A1_7 x1_7.length C1_7, .int .i64 x1_8] 44)) w16 := Kept.trans hka1 (Kept.grown ho1 hgrow6)
   have hbB2 : Bel w w16 := Below.grown hbB1 hgrow6 (by have h := hbB1.size; exact h) (OwnS.base ho1)
   have ho2 : OwnS w w16 v6 (x1_1 ++ x1_2) := ⟨by simpa using hown6, fun x hx => HSZ.out x (by simpa using hx)⟩
   clear hown6 hgrow6
   refine hK.out _ _ ?_ (fun hHeld => ?_)
   ·
    exact ⟨HB1.out _ (by first | exact hka2 | exact hka1 | exact Kept.ofBel bl), HB2.out _ (by first | exact hka2 | exact hka1 | exact Kept.ofBel bl)⟩
   clear hK K
   (try simp only [Act.put, List.setIfInBounds_toArray, List.set_cons_zero, List.set_cons_succ, List.getElem_toArray, List.getElem_cons_zero, List.getElem_cons_succ])
   refine tkI 7 ?_
   refine wpAnyH_done (by kernel_rfl) ?_ _
   have e0 := HU0.out _ hka2
   have e1 := HU1.out _ hka2
   have e2 := HU2.out _ hka2
   have q3 := HB3.out _ hka2
   have q4 := HB4.out _ hka2
   have q5 := HB5.out _ hka2
   have q6 := HB6.out _ hka2
   have q7 := HB7.out _ hka2
   have HO2 := hide ho2
   have HXE := hide (show x1_1 ++ x1_2 = x1_1 ++ x1_2 by rfl)
   clear ho2 ho1 ho0
   go_wp2_with (go_at_call 31; refine (addNames_any (TExpr.mk x1_3 x1_4 x1_5 x1_6 x1_7) R G P S w _ _ _ _ (x1_1 ++ x1_2) HT.out HU.out HVB.out bl (by rw [← HXE.out]; exact OwnS.bel HO2.out bl) (by have h := HP1.out.2.2.2.1; simp; omega) HP1.out.2.2.1).mono ?_; rintro e w9 ⟨v9, rfl, ho9, hb9, -⟩)
   all_goals
    go_returns
    exact ⟨_, rfl, by rw [HLL.out]; exact OwnS.bel ho9 bl, Bel.trans hb9 bl⟩
end Go.Proofs.YtdacpljinffnaaaDoor
