/- A new store: the reference. -/
import Derived.Test.YtgofbnmablgedaaGreatDoorPNd
namespace Go.Proofs.YtgofbnmablgedaaGreatDoor
set_option linter.unusedVariables false
set_option linter.unusedSimpArgs false
set_option maxRecDepth 100000
open Go.RowKit
structure SpL (w0 wx : World) (b8 : Nat) (v0 v1 v3 : Value) (tr : Bool) (b : Int) : Prop where
 box : SB wx b8 v0 v1 (.slice none 0 0) v3 (.string ByteArray.empty) (.int .i64 1) (.slice none 0 0) (.slice none 0 0) (.slice none 0 0) (.bool tr) (.int .i64 0) (.int .i64 b) (.int .i64 0)
 off : OffS (fun x => x ≠ b8) w0 wx
section
variable {w0 wx wy : World} {b8 : Nat} {v0 v1 v3 v9 : Value} {tr : Bool} {b : Int}
theorem SpL.bel (h : SpL w0 wx b8 v0 v1 v3 tr b) (k : Bel wx wy) : SpL w0 wy b8 v0 v1 v3 tr b := ⟨h.box.on k, h.off.bel k⟩
theorem SpL.grow0 (h : SpL w0 wx b8 v0 v1 v3 tr b) (hb : b8 < w0.heap.size) (hf : ∀ k, v0.ownBlock = some k → w0.heap.size ≤ k) (hg : wx.grownBy wy v0.ownBlock) : SB wy b8 v0 v1 (.slice none 0 0) v3 (.string ByteArray.empty) (.int .i64 1) (.slice none 0 0) (.slice none 0 0) (.slice none 0 0) (.bool tr) (.int .i64 0) (.int .i64 b) (.int .i64 0) ∧ OffS (fun x => x ≠ b8) w0 wy ∧ SpL w0 (wy.setCell ⟨b8, 0, none⟩ v9) b8 v9 v1 v3 tr b := by
 have ho : OffS (fun x => x ≠ b8) w0 wy := OffS.via h.off (grown_offS hg) (fun x _ hl q => by have := hf x q; omega)
 have hB : SB wy b8 v0 v1 (.slice none 0 0) v3 (.string ByteArray.empty) (.int .i64 1) (.slice none 0 0) (.slice none 0 0) (.slice none 0 0) (.bool tr) (.int .i64 0) (.int .i64 b) (.int .i64 0) := h.box.block hg.size (hg.block b8 h.box.1 (fun q => by have := hf b8 q.symm; omega))
 exact ⟨hB, ho, hB.put0 _, OffS.set ho (fun q => q rfl) _⟩
theorem SpL.grow3 (h : SpL w0 wx b8 v0 v1 v3 tr b) (hb : b8 < w0.heap.size) (hf : ∀ k, v3.ownBlock = some k → w0.heap.size ≤ k) (hg : wx.grownBy wy v3.ownBlock) : SB wy b8 v0 v1 (.slice none 0 0) v3 (.string ByteArray.empty) (.int .i64 1) (.slice none 0 0) (.slice none 0 0) (.slice none 0 0) (.bool tr) (.int .i64 0) (.int .i64 b) (.int .i64 0) ∧ OffS (fun x => x ≠ b8) w0 wy ∧ SpL w0 (wy.setCell ⟨b8, 3, none⟩ v9) b8 v0 v1 v9 tr b := by
 have ho : OffS (fun x => x ≠ b8) w0 wy := OffS.via h.off (grown_offS hg) (fun x _ hl q => by have := hf x q; omega)
 have hB : SB wy b8 v0 v1 (.slice none 0 0) v3 (.string ByteArray.empty) (.int .i64 1) (.slice none 0 0) (.slice none 0 0) (.slice none 0 0) (.bool tr) (.int .i64 0) (.int .i64 b) (.int .i64 0) := h.box.block hg.size (hg.block b8 h.box.1 (fun q => by have := hf b8 q.symm; omega))
 exact ⟨hB, ho, hB.put3 _, OffS.set ho (fun q => q rfl) _⟩
end
theorem rep_snoc (k : Nat) : (List.replicate (k + 1) zeroV).map TValue.D = (List.replicate k zeroV).map TValue.D ++ [zeroV.D] := by
 rw [List.replicate_succ', List.map_append, List.map_cons, List.map_nil]
set_option maxHeartbeats 2000000 in
theorem specNew_any : NewC 5 := by
 intro p b tr S w vs htab hv hwt hb
 have HT := hide htab
 have HV := hide hv
 have HWT := hide hwt
 have HB := hide hb
 have hbI := hb
 unfold InI at hbI
 obtain ⟨rs, recs, gl, mn⟩ := p
 obtain ⟨A0, c0, A1, c1, A2, c2, rfl, g0, g1, g2, gm⟩ := TProgram.vals hv
 have HR0 := hide g0
 have hlc0 := g0.1
 have hcm0 := g0.2.1
 simp only [List.length_map] at hlc0
 unfold maxLen at hcm0
 have HR1 := hide g1
 have hlc1 := g1.1
 have hcm1 := g1.2.1
 simp only [List.length_map] at hlc1
 unfold maxLen at hcm1
 have HR2 := hide g2
 have hlc2 := g2.1
 have hcm2 := g2.2.1
 simp only [List.length_map] at hlc2
 unfold maxLen at hcm2
 clear htab hv hwt hb g0 g1 g2 gm
 obtain ⟨is, his, zs0, zs1, zs2⟩ := info_parts infoStr
 obtain ⟨iv, hiv, zv0, zv1, zv2⟩ := info_parts infoVal
 obtain ⟨pb, hpb⟩ : ∃ q, progB (.mk rs recs gl mn) = q := ⟨_, rfl⟩
 have HP := hide hpb
 clear hpb
 go_enter Tryz.func5, Tryz.ntmps5
 go_upto_region 1 with (fail)
 go_cut [18] from 11 (fun v wx => v = .bool (!newOk (.mk rs recs gl mn) b) ∧ Bel w wx ∧ SB wx (w.heap.size + 1) (.slice none 0 0) (.slice none 0 0) (.slice none 0 0) (.slice none 0 0) (.string ByteArray.empty) (.int .i64 0) (.slice none 0 0) (.slice none 0 0) (.slice none 0 0) (.bool false) (.int .i64 0) (.int .i64 0) (.int .i64 0) ∧ wx.cell? ⟨w.heap.size, 0, none⟩ = some (.slice A0 rs.length c0) ∧ wx.cell? ⟨w.heap.size, 1, none⟩ = some (.slice A1 recs.length c1) ∧ wx.cell? ⟨w.heap.size, 2, none⟩ = some (.slice A2 gl.length c2))
 case first =>
  cases pb
  ·
   skip
   have HK := hide (newOk_no (b := b) (Or.inl HP.out))
   go_wp2_with (first | (go_at_call 16; refine (specIsValidProgram_law (.mk rs recs gl mn) S _ _ (HT.out.on bl) (HV.out.bel bl) HWT.out).mono ?_; rintro e w2 ⟨rfl, hb2⟩; rw [HP.out]; (have hz2 := hb2.sz; obtain ⟨hk2_0, hf2_0, hl2_0, hn2_0⟩ := hb2.lay (w.heap.size); obtain ⟨hk2_1, hf2_1, hl2_1, hn2_1⟩ := hb2.lay (w.heap.size + 1))) | (go_at_call 17; refine (l1In_any b 0 4000 _).mono ?_; rintro e w4 ⟨rfl, rfl⟩; rw [HIN.out]))
   all_goals go_meet
   all_goals exact (⟨by rw [HK.out]; rfl, bl, ⟨hl2_1, fun o => by simp [hf2_1, go_sem], by simp [hk2_1, go_sem]; try rfl, by simp [hk2_1, go_sem]; try rfl, by simp [hk2_1, go_sem]; try rfl, by simp [hk2_1, go_sem]; try rfl, by simp [hk2_1, go_sem]; try rfl, by simp [hk2_1, go_sem]; try rfl, by simp [hk2_1, go_sem]; try rfl, by simp [hk2_1, go_sem]; try rfl, by simp [hk2_1, go_sem]; try rfl, by simp [hk2_1, go_sem]; try rfl, by simp [hk2_1, go_sem]; try rfl, by simp [hk2_1, go_sem]; try rfl, by simp [hk2_1, go_sem]; try rfl⟩, by simp [hk2_0, go_sem], by simp [hk2_0, go_sem], by simp [hk2_0, go_sem]⟩)
  ·
   skip
   by_cases h0 : 0 ≤ b ∧ b ≤ 4000
   ·
    skip
    have HIN := hide (show (decide (0 ≤ b) && decide (b ≤ 4000)) = true by rw [decide_eq_true h0.1, decide_eq_true h0.2]; rfl)
    have HK := hide (newOk_yes (b := b) HP.out h0.1 h0.2)
    go_wp2_with (first | (go_at_call 16; refine (specIsValidProgram_law (.mk rs recs gl mn) S _ _ (HT.out.on bl) (HV.out.bel bl) HWT.out).mono ?_; rintro e w2 ⟨rfl, hb2⟩; rw [HP.out]; (have hz2 := hb2.sz; obtain ⟨hk2_0, hf2_0, hl2_0, hn2_0⟩ := hb2.lay (w.heap.size); obtain ⟨hk2_1, hf2_1, hl2_1, hn2_1⟩ := hb2.lay (w.heap.size + 1))) | (go_at_call 17; refine (l1In_any b 0 4000 _).mono ?_; rintro e w4 ⟨rfl, rfl⟩; rw [HIN.out]))
    all_goals go_meet
    all_goals exact (⟨by rw [HK.out]; rfl, bl, ⟨hl2_1, fun o => by simp [hf2_1, go_sem], by simp [hk2_1, go_sem]; try rfl, by simp [hk2_1, go_sem]; try rfl, by simp [hk2_1, go_sem]; try rfl, by simp [hk2_1, go_sem]; try rfl, by simp [hk2_1, go_sem]; try rfl, by simp [hk2_1, go_sem]; try rfl, by simp [hk2_1, go_sem]; try rfl, by simp [hk2_1, go_sem]; try rfl, by simp [hk2_1, go_sem]; try rfl, by simp [hk2_1, go_sem]; try rfl, by simp [hk2_1, go_sem]; try rfl, by simp [hk2_1, go_sem]; try rfl, by simp [hk2_1, go_sem]; try rfl⟩, by simp [hk2_0, go_sem], by simp [hk2_0, go_sem], by simp [hk2_0, go_sem]⟩)
   ·
    skip
    have HIN := hide (show (decide (0 ≤ b) && decide (b ≤ 4000)) = false by rw [← Bool.not_eq_true]; intro h; simp only [Bool.and_eq_true, decide_eq_true_eq] at h; exact h0 h)
    have HK := hide (newOk_no (p := .mk rs recs gl mn) (b := b) (Or.inr (by omega)))
    go_wp2_with (first | (go_at_call 16; refine (specIsValidProgram_law (.mk rs recs gl mn) S _ _ (HT.out.on bl) (HV.out.bel bl) HWT.out).mono ?_; rintro e w2 ⟨rfl, hb2⟩; rw [HP.out]; (have hz2 := hb2.sz; obtain ⟨hk2_0, hf2_0, hl2_0, hn2_0⟩ := hb2.lay (w.heap.size); obtain ⟨hk2_1, hf2_1, hl2_1, hn2_1⟩ := hb2.lay (w.heap.size + 1))) | (go_at_call 17; refine (l1In_any b 0 4000 _).mono ?_; rintro e w4 ⟨rfl, rfl⟩; rw [HIN.out]))
    all_goals go_meet
    all_goals exact (⟨by rw [HK.out]; rfl, bl, ⟨hl2_1, fun o => by simp [hf2_1, go_sem], by simp [hk2_1, go_sem]; try rfl, by simp [hk2_1, go_sem]; try rfl, by simp [hk2_1, go_sem]; try rfl, by simp [hk2_1, go_sem]; try rfl, by simp [hk2_1, go_sem]; try rfl, by simp [hk2_1, go_sem]; try rfl, by simp [hk2_1, go_sem]; try rfl, by simp [hk2_1, go_sem]; try rfl, by simp [hk2_1, go_sem]; try rfl, by simp [hk2_1, go_sem]; try rfl, by simp [hk2_1, go_sem]; try rfl, by simp [hk2_1, go_sem]; try rfl, by simp [hk2_1, go_sem]; try rfl⟩, by simp [hk2_0, go_sem], by simp [hk2_0, go_sem], by simp [hk2_0, go_sem]⟩)
 case rest =>
  obtain ⟨rfl, hb3, RS0, k0, k1, k2⟩ := hcut
  obtain ⟨w3, rfl⟩ : ∃ w3, w3 = wc := ⟨_, rfl⟩
  have RS := hide RS0
  have hz3 := RS0.1
  have hlA : w.heap.size < w3.heap.size := by omega
  have hnA : ¬ w.heap.size = w3.heap.size := by omega
  have hnB : ¬ w.heap.size + 1 = w3.heap.size := by omega
  clear RS0
  cases hK : newOk (.mk rs recs gl mn) b
  ·
   skip
   (try simp only [Bool.not_false])
   have RX := RS.out
   obtain ⟨xl, xf, x0, x1, x2, x3, x4, x5, x6, x7, x8, x9, x10, x11, x12⟩ := RX
   have HK := hide hK
   clear hK
   go_wp2_with (fail)
   all_goals exact bodyPost_ret (v := .tuple #[.agg #[.slice none 0 0, .slice none 0 0, .slice none 0 0, .slice none 0 0, .string ByteArray.empty, .int .i64 0, .slice none 0 0, .slice none 0 0, .slice none 0 0, .bool false, .int .i64 0, .int .i64 0, .int .i64 0], .bool false]) (by simp [results, Tryz.results5, go_sem, *]; try rfl) rfl (new_fail HK.out bl)
  ·
   skip
   (try simp only [Bool.not_true])
   have hpt : progB (.mk rs recs gl mn) = true := by unfold newOk at hK; simp only [Bool.and_eq_true] at hK; exact hK.1
   have HK := hide hK
   obtain ⟨q1, q2, q3, q4⟩ := prog_parts hpt
   have HFL := hide q4
   clear hpt q4 hK
   go_upto_region 4 with (go_at_call 18; refine (specRecs_any recs S _ A1 c1 (Row.bel (Bel.trans hb3 bl) HR1.out) (by omega) HFL.out).mono ?_; rintro e w4 ⟨vR, LR0, rfl, hOR, hBR, hb4⟩; obtain ⟨AR, cR, LR, rfl, hrR, hnR, hmR⟩ := hOR.ownRow; simp only [List.length_map] at hmR hBR ⊢; have HRR := hide hrR; have HNR := hide hnR; have HLR := hide (show ∀ x, x ∈ LR → w3.heap.size ≤ x ∧ x < w4.heap.size from fun x hx => ⟨hBR x (hmR x hx), hrR.lt x hx⟩); clear hOR hBR hrR hnR hmR)
   refine wp_named2 fun w5 hw5 => ?_
   have hb45 : Bel w4 w5 := by rw [← hw5]; exact bl
   have B8 := hide (show SpL w5 w5 w4.heap.size (.slice none 0 0) (.slice AR recs.length cR) (.slice none 0 0) tr b from ⟨by rw [← hw5]; exact SB.new _ _, OffS.refl _ _⟩)
   have hz5 : w5.heap.size = w4.heap.size + 1 := by rw [← hw5]; simp
   have hz34 := hb4.size
   have hb35 := Bel.trans hb4 hb45
   have hb5 := Bel.trans hb3 hb35
   have RS5 := hide (RS.out.on hb35)
   have HRR5 := hide (HRR.out.bel hb45)
   have z0 := (hb35.box w.heap.size hlA 0).trans k0
   have z1 := (hb35.box w.heap.size hlA 1).trans k1
   have z2 := (hb35.box w.heap.size hlA 2).trans k2
   clear hw5 hb45 HRR RS k0 k1 k2
   have hb8 : w4.heap.size < w5.heap.size := by omega
   have hb8w : w3.heap.size ≤ w4.heap.size := hz34
   obtain ⟨b8, hB8⟩ : ∃ b8, b8 = w4.heap.size := ⟨_, rfl⟩
   generalize w4.heap.size = b8 at B8 hb8 hb8w HLR hz5 ⊢
   clear hb4 hb35 hz34
   go_wp2_with (fail)
   go_loopw [9] (fun iv wr => ∃ (i : Nat) (v : Value) (L : List Nat), iv = .int .i64 i ∧ i ≤ rs.length ∧ Hid (SpL w5 wr b8 v (.slice AR recs.length cR) (.slice none 0 0) tr b) ∧ Hid (OwnD wr 9 1 v L (((rs.take i).map TRoutine.nm).map (fun x => [Dat.str x]))) ∧ Hid (∀ x, Blk v L x → w5.heap.size ≤ x)) (fun iv _ => rs.length - (intOf iv).toNat)
   case atStart => exact ⟨0, _, [], rfl, Nat.zero_le _, B8, hide (OwnD.nil _ _ _), hide (fun x hx => by rcases hx with hx | hx <;> cases hx)⟩
   case round =>
    obtain ⟨i, v, L, rfl, hi, HSP, HO, HBL⟩ := hrel
    have hbw := HSP.out.off.toBel hb5 (fun x hx => by omega)
    have y0 := (HSP.out.off.same w.heap.size (by omega) (by omega)).1 0
    rw [z0] at y0
    have BX := HSP.out.box
    obtain ⟨blt, bf, e0, e1, e2, e3, e4, e5, e6, e7, e8, e9, e10, e11, e12⟩ := BX
    by_cases h : i < rs.length
    ·
     skip
     have hdc : decide ((i : Int) < (rs.length : Int)) = true := by simp; omega
     have hi0 : (0 : Int) ≤ (i : Int) := by omega
     have hi1 : (i : Int) < (rs.length : Int) := by omega
     (obtain ⟨b1, o1, x1_0, x1_1, x1_2, x1_3, x1_4, x1_5, x1_6, x1_7, x1_8, A1_2, C1_2, A1_8, C1_8, hA1, hS1, hl1, hx1, hv1, g1_0, g1_1, g1_2, g1_3, g1_4, g1_5, g1_6, g1_7, g1_8, c1_0, c1_1, c1_2, c1_3, c1_4, c1_5, c1_6, c1_7, c1_8⟩ := TRoutine.at HR0.out i h; subst hA1; have HV1 := hide (Dat.HoldVals.bel hbw hv1); have hh1 := hbw.box b1 hl1; have hw1 := Nat.lt_of_lt_of_le hl1 (Bel.size hbw); replace c1_0 := (hh1 _).trans c1_0; replace c1_1 := (hh1 _).trans c1_1; replace c1_2 := (hh1 _).trans c1_2; replace c1_3 := (hh1 _).trans c1_3; replace c1_4 := (hh1 _).trans c1_4; replace c1_5 := (hh1 _).trans c1_5; replace c1_6 := (hh1 _).trans c1_6; replace c1_7 := (hh1 _).trans c1_7; replace c1_8 := (hh1 _).trans c1_8; have HX1 := hide hx1; have GR1_2 := hide g1_2; have GR1_8 := hide g1_8; clear hh1 hv1 hx1 hS1 g1_2 g1_8)
     have HE := hide (show rs[i].nm = x1_0 by rw [HX1.out]; rfl)
     go_upto_region 7 with (fail)
     refine wp_region_held_drew (S := fun w' => w'.cell? ⟨w.heap.size, 0, none⟩ = some (.slice (some ⟨b1, o1, none⟩) rs.length c0) ∧ w'.cell? ⟨b1, o1 + i * 9, none⟩ = some (.string x1_0)) (by kernel_rfl) ?_ (fun hHeld => ?_)
     ·
      exact ⟨y0, c1_0⟩
     refine tkI 0 ?_
     refine tkI 2 ?_
     refine tkI 3 ?_
     refine tkI 4 ?_
     refine tkI 5 ?_
     refine tkI 6 ?_
     refine tkI 7 ?_
     refine wpAnyH_ready (rs := [1, 8]) (by kernel_rfl) (by simp) ?_
     refine AllReadyH.cons (o := _) rfl (fun K hK => ?_) (AllReadyH.cons (o := _) rfl (fun K hK => ?_) (AllReadyH.nil))
     ·
      skip
      go_simp
      refine hK.out _ _ ?_ (fun hHeld => ?_)
      ·
       exact ⟨y0, c1_0⟩
      clear hK K
      (try simp only [Act.put, List.setIfInBounds_toArray, List.set_cons_zero, List.set_cons_succ, List.getElem_toArray, List.getElem_cons_zero, List.getElem_cons_succ])
      refine wpAnyH_ready (rs := [8]) (by kernel_rfl) (by simp) ?_
      refine AllReadyH.cons (o := _) rfl (fun K hK => ?_) (AllReadyH.nil)
      go_simp
      have hb8r : Bel wr ((wr.alloc (.cells #[.string x1_0] 9)).drew) := bl
      have hlw : w.heap.size < wr.heap.size := by have := hbw.size; have := HSP.out.off.size; omega
      refine hK.out _ _ ?_ (fun hHeld => ?_)
      ·
       exact ⟨(hb8r.box _ hlw _).trans y0, (hb8r.box _ hw1 _).trans c1_0⟩
      clear hK K
      (try simp only [Act.put, List.setIfInBounds_toArray, List.set_cons_zero, List.set_cons_succ, List.getElem_toArray, List.getElem_cons_zero, List.getElem_cons_succ])
      refine wpAnyH_ready (rs := [9]) (by kernel_rfl) (by simp) ?_
      refine AllReadyH.cons (o := _) rfl (fun K hK => ?_) (AllReadyH.nil)
      rw [if_pos (by rfl)]
      have hown8 := OwnD.lit1 (k := 1) wr 9 (str_own wr g1_0) rfl List.nodup_nil
      obtain ⟨nw, hsr⟩ := hown8.src
      have HO8 := HO.out.bel hb8r
      refine wp_append_D (.tmp 34) (.tmp 41) 24 rfl 9 is (.string ByteArray.empty) 1 16 Tryz.underlying24 his zs0 zs1 zs2 (by decide) (by decide) HO8 (hsr.bel (Bel.drew (Bel.refl _))) 1 rfl rfl (fun b hb hm => by cases hm) (by simp only [List.length_map, List.length_take]; omega) (by simp only [List.length_map, List.length_take]; unfold maxLen; omega) fun v9 w9 hO9 hg9 hw9 => ?_
      obtain ⟨A9, n9, c9, rfl⟩ : ∃ A9 n9 c9, v9 = .slice A9 n9 c9 := by obtain ⟨A0, c0, L0, hv0, _⟩ := hO9.ownRow; exact ⟨_, _, _, hv0⟩
      obtain ⟨B9, O9, S9⟩ := (HSP.out.bel hb8r).grow0 (v9 := .slice A9 n9 c9) hb8 (fun k hk => HBL.out k (Or.inl hk)) hg9
      obtain ⟨hl9, f9, a0, a1, a2, a3, a4, a5, a6, a7, a8, a9, a10, a11, a12⟩ := B9
      have HS9 := hide S9
      have hz8 := hb8r.size
      have y9 := (O9.same w.heap.size (by omega) (by omega)).1 0
      rw [z0] at y9
      have hx9 : w9.cell? ⟨b1, o1 + i * 9, none⟩ = some (.string x1_0) := (World.cell?_of_block (hg9.block b1 (by omega) (fun q => by have := HBL.out b1 (Or.inl q.symm); omega))).trans ((hb8r.box b1 hw1 _).trans c1_0)
      have HO9 := hide (show OwnD (w9.setCell ⟨b8, 0, none⟩ (.slice A9 n9 c9)) 9 1 (.slice A9 n9 c9) (L ++ []) (((rs.take (i + 1)).map TRoutine.nm).map (fun x => [Dat.str x])) by rw [nm_take h, HE.out]; exact OwnD.keep hO9 (by simp) (fun x hx => set_block 0 _ (fun q => by rcases hx with hx | hx; (rcases hw9 x hx with hx | hx; (have := HBL.out x (Or.inl hx); omega); omega); (have := HBL.out x (Or.inr (by simpa using hx)); omega))))
      have HB9 := hide (show ∀ x, Blk (.slice A9 n9 c9) (L ++ []) x → w5.heap.size ≤ x from fun x hx => hx.elim (fun q => (hw9 x q).elim (fun q => HBL.out x (Or.inl q)) (fun q => by have := HSP.out.off.size; omega)) (fun q => HBL.out x (Or.inr (by simpa using q))))
      clear hO9 hg9 hw9 hsr hown8 S9
      refine hK.out _ _ ?_ (fun hHeld => ?_)
      ·
       exact ⟨y9, hx9⟩
      clear hK K
      (try simp only [Act.put, List.setIfInBounds_toArray, List.set_cons_zero, List.set_cons_succ, List.getElem_toArray, List.getElem_cons_zero, List.getElem_cons_succ])
      refine tkI 10 ?_
      refine wpAnyH_ready (rs := [11]) (by kernel_rfl) (by simp) ?_
      refine AllReadyH.cons (o := _) rfl (fun K hK => ?_) (AllReadyH.nil)
      go_simp
      refine hK.out _ _ ?_ (fun hHeld => ?_)
      ·
       exact ⟨(World.cell?_of_block (set_block 0 _ (show b8 ≠ w.heap.size by omega))).trans y9, (World.cell?_of_block (set_block 0 _ (show b8 ≠ b1 by omega))).trans hx9⟩
      clear hK K
      (try simp only [Act.put, List.setIfInBounds_toArray, List.set_cons_zero, List.set_cons_succ, List.getElem_toArray, List.getElem_cons_zero, List.getElem_cons_succ])
      refine wpAnyH_done (by kernel_rfl) ?_ _
      clear hHeld
      go_wp2_with (fail)
      all_goals go_roundw
      case rel => exact ⟨i + 1, _, _, by go_num, by omega, HS9, HO9, HB9⟩
      case measure => simp [intOf]; omega
     ·
      skip
      go_simp
      have hb8r : Bel wr ((wr.alloc (.cells #[.string x1_0] 9)).drew) := bl
      have hlw : w.heap.size < wr.heap.size := by have := hbw.size; have := HSP.out.off.size; omega
      refine hK.out _ _ ?_ (fun hHeld => ?_)
      ·
       exact ⟨(hb8r.box _ hlw _).trans y0, (hb8r.box _ hw1 _).trans c1_0⟩
      clear hK K
      (try simp only [Act.put, List.setIfInBounds_toArray, List.set_cons_zero, List.set_cons_succ, List.getElem_toArray, List.getElem_cons_zero, List.getElem_cons_succ])
      refine wpAnyH_ready (rs := [1]) (by kernel_rfl) (by simp) ?_
      refine AllReadyH.cons (o := _) rfl (fun K hK => ?_) (AllReadyH.nil)
      have hk8 : ((wr.alloc (.cells #[.string x1_0] 9)).drew).cell? ⟨b8, 0, none⟩ = some v := (hb8r.box b8 blt 0).trans e0
      go_simp
      refine hK.out _ _ ?_ (fun hHeld => ?_)
      ·
       exact ⟨(hb8r.box _ hlw _).trans y0, (hb8r.box _ hw1 _).trans c1_0⟩
      clear hK K
      (try simp only [Act.put, List.setIfInBounds_toArray, List.set_cons_zero, List.set_cons_succ, List.getElem_toArray, List.getElem_cons_zero, List.getElem_cons_succ])
      refine wpAnyH_ready (rs := [9]) (by kernel_rfl) (by simp) ?_
      refine AllReadyH.cons (o := _) rfl (fun K hK => ?_) (AllReadyH.nil)
      rw [if_pos (by rfl)]
      have hown8 := OwnD.lit1 (k := 1) wr 9 (str_own wr g1_0) rfl List.nodup_nil
      obtain ⟨nw, hsr⟩ := hown8.src
      have HO8 := HO.out.bel hb8r
      refine wp_append_D (.tmp 34) (.tmp 41) 24 rfl 9 is (.string ByteArray.empty) 1 16 Tryz.underlying24 his zs0 zs1 zs2 (by decide) (by decide) HO8 (hsr.bel (Bel.drew (Bel.refl _))) 1 rfl rfl (fun b hb hm => by cases hm) (by simp only [List.length_map, List.length_take]; omega) (by simp only [List.length_map, List.length_take]; unfold maxLen; omega) fun v9 w9 hO9 hg9 hw9 => ?_
      obtain ⟨A9, n9, c9, rfl⟩ : ∃ A9 n9 c9, v9 = .slice A9 n9 c9 := by obtain ⟨A0, c0, L0, hv0, _⟩ := hO9.ownRow; exact ⟨_, _, _, hv0⟩
      obtain ⟨B9, O9, S9⟩ := (HSP.out.bel hb8r).grow0 (v9 := .slice A9 n9 c9) hb8 (fun k hk => HBL.out k (Or.inl hk)) hg9
      obtain ⟨hl9, f9, a0, a1, a2, a3, a4, a5, a6, a7, a8, a9, a10, a11, a12⟩ := B9
      have HS9 := hide S9
      have hz8 := hb8r.size
      have y9 := (O9.same w.heap.size (by omega) (by omega)).1 0
      rw [z0] at y9
      have hx9 : w9.cell? ⟨b1, o1 + i * 9, none⟩ = some (.string x1_0) := (World.cell?_of_block (hg9.block b1 (by omega) (fun q => by have := HBL.out b1 (Or.inl q.symm); omega))).trans ((hb8r.box b1 hw1 _).trans c1_0)
      have HO9 := hide (show OwnD (w9.setCell ⟨b8, 0, none⟩ (.slice A9 n9 c9)) 9 1 (.slice A9 n9 c9) (L ++ []) (((rs.take (i + 1)).map TRoutine.nm).map (fun x => [Dat.str x])) by rw [nm_take h, HE.out]; exact OwnD.keep hO9 (by simp) (fun x hx => set_block 0 _ (fun q => by rcases hx with hx | hx; (rcases hw9 x hx with hx | hx; (have := HBL.out x (Or.inl hx); omega); omega); (have := HBL.out x (Or.inr (by simpa using hx)); omega))))
      have HB9 := hide (show ∀ x, Blk (.slice A9 n9 c9) (L ++ []) x → w5.heap.size ≤ x from fun x hx => hx.elim (fun q => (hw9 x q).elim (fun q => HBL.out x (Or.inl q)) (fun q => by have := HSP.out.off.size; omega)) (fun q => HBL.out x (Or.inr (by simpa using q))))
      clear hO9 hg9 hw9 hsr hown8 S9
      refine hK.out _ _ ?_ (fun hHeld => ?_)
      ·
       exact ⟨y9, hx9⟩
      clear hK K
      (try simp only [Act.put, List.setIfInBounds_toArray, List.set_cons_zero, List.set_cons_succ, List.getElem_toArray, List.getElem_cons_zero, List.getElem_cons_succ])
      refine tkI 10 ?_
      refine wpAnyH_ready (rs := [11]) (by kernel_rfl) (by simp) ?_
      refine AllReadyH.cons (o := _) rfl (fun K hK => ?_) (AllReadyH.nil)
      go_simp
      refine hK.out _ _ ?_ (fun hHeld => ?_)
      ·
       exact ⟨(World.cell?_of_block (set_block 0 _ (show b8 ≠ w.heap.size by omega))).trans y9, (World.cell?_of_block (set_block 0 _ (show b8 ≠ b1 by omega))).trans hx9⟩
      clear hK K
      (try simp only [Act.put, List.setIfInBounds_toArray, List.set_cons_zero, List.set_cons_succ, List.getElem_toArray, List.getElem_cons_zero, List.getElem_cons_succ])
      refine wpAnyH_done (by kernel_rfl) ?_ _
      clear hHeld
      go_wp2_with (fail)
      all_goals go_roundw
      case rel => exact ⟨i + 1, _, _, by go_num, by omega, HS9, HO9, HB9⟩
      case measure => simp [intOf]; omega
    ·
     skip
     have hdc : decide ((i : Int) < (rs.length : Int)) = false := by simp; omega
     have hO := HO.out
     rw [List.take_of_length_le (by omega)] at hO
     obtain ⟨AN, cN, LN, rfl, hrN, hnN, hmN⟩ := hO.ownRow
     have HRN := hide hrN
     have HNN := hide hnN
     have HLN := hide (show ∀ x, x ∈ LN → w5.heap.size ≤ x ∧ x < wr.heap.size from fun x hx => ⟨HBL.out x (hmN x hx), hrN.lt x hx⟩)
     clear hO hrN hnN hmN HBL HO
     simp only [List.length_map] at e0 HSP ⊢
     go_wp2_with (fail)
     obtain ⟨w6, rfl⟩ : ∃ w6, w6 = wr := ⟨_, rfl⟩
     have RR6 := hide (HRR5.out.offS HSP.out.off (fun x hx => by have := HLR.out x hx; omega))
     have hb6 := HSP.out.off.toBel hb5 (fun x hx => by omega)
     have hz6 := HSP.out.off.size
     have RS6 := hide (RS5.out.block hz6 (HSP.out.off.block _ (by omega) RS5.out.1))
     have z62 := (HSP.out.off.same w.heap.size (by omega) (by omega)).1 2
     rw [z2] at z62
     have B6 := hide (show SpL w6 w6 b8 (.slice AN rs.length cN) (.slice AR recs.length cR) (.slice none 0 0) tr b from ⟨HSP.out.box, OffS.refl _ _⟩)
     clear HSP y0 HRR5 RS5 B8 z0 z1 z2 blt bf e0 e1 e2 e3 e4 e5 e6 e7 e8 e9 e10 e11 e12
     go_loopw [10] (fun iv wr => ∃ (j : Nat) (v : Value) (L : List Nat), iv = .int .i64 j ∧ j ≤ gl.length ∧ Hid (SpL w6 wr b8 (.slice AN rs.length cN) (.slice AR recs.length cR) v tr b) ∧ Hid (OwnD wr 59 6 v L ((List.replicate j zeroV).map TValue.D)) ∧ Hid (∀ x, Blk v L x → w6.heap.size ≤ x)) (fun iv _ => gl.length - (intOf iv).toNat)
     case atStart => exact ⟨0, _, [], rfl, Nat.zero_le _, B6, hide (OwnD.nil _ _ _), hide (fun x hx => by rcases hx with hx | hx <;> cases hx)⟩
     case round =>
      obtain ⟨j, v, L, rfl, hj, HSQ, HO, HBL⟩ := hrel
      have y2 := (HSQ.out.off.same w.heap.size (by omega) (by omega)).1 2
      rw [z62] at y2
      have hzr := HSQ.out.off.size
      have hlw : w.heap.size < wr.heap.size := by omega
      have hnw : ¬ w.heap.size = wr.heap.size := by omega
      have BX := HSQ.out.box
      obtain ⟨blt, bf, e0, e1, e2, e3, e4, e5, e6, e7, e8, e9, e10, e11, e12⟩ := BX
      have hnb : ¬ b8 = wr.heap.size := by omega
      by_cases hjj : j < gl.length
      ·
       skip
       have hdj : decide ((j : Int) < (gl.length : Int)) = true := by simp; omega
       have hown8 := OwnD.lit1 (k := 6) wr 59 (zero_own wr) rfl List.nodup_nil
       obtain ⟨nw, hsr⟩ := hown8.src
       have HSR := hide hsr
       have hb8r : Bel wr (wr.alloc (.cells ([.int .i64 0, .int .i64 0, .int .i64 0, .string ByteArray.empty, .int .i64 0, .int .i64 0] : List Value).toArray 59)) := bl
       have HO8 := hide (HO.out.bel hb8r)
       clear hown8 hsr
       go_wp2_with (at_builtin; refine wpList_append_D rfl (.tmp 52) (.tmp 54) 30 rfl 59 iv (.agg #[.int .i64 0, .int .i64 0, .int .i64 0, .string ByteArray.empty, .int .i64 0, .int .i64 0]) 6 56 Tryz.underlying30 hiv zv0 zv1 zv2 (by decide) (by decide) HO8.out HSR.out 1 rfl rfl ?c1 ?c2 ?c3 ?_)
       case c1 => exact fun b hb hm => by cases hm
       case c2 => simp only [List.length_map, List.length_replicate]; omega
       case c3 => simp only [List.length_map, List.length_replicate]; unfold maxLen; omega
       intro v9 w9 hO9 hg9 hw9
       obtain ⟨A9, n9, c9, rfl⟩ : ∃ A9 n9 c9, v9 = .slice A9 n9 c9 := by obtain ⟨A0, c0, L0, hv0, _⟩ := hO9.ownRow; exact ⟨_, _, _, hv0⟩
       obtain ⟨B9, O9, S9⟩ := (HSQ.out.bel hb8r).grow3 (v9 := .slice A9 n9 c9) (by omega) (fun k hk => HBL.out k (Or.inl hk)) hg9
       obtain ⟨hl9, f9, a0, a1, a2, a3, a4, a5, a6, a7, a8, a9, a10, a11, a12⟩ := B9
       have HS9 := hide S9
       clear S9 O9
       have HO9 := hide (show OwnD (w9.setCell ⟨b8, 3, none⟩ (.slice A9 n9 c9)) 59 6 (.slice A9 n9 c9) L ((List.replicate (j + 1) zeroV).map TValue.D) by rw [rep_snoc]; exact OwnD.keep (by simpa using hO9) (by simp) (fun x hx => set_block 3 _ (fun q => by rcases hx with hx | hx; (rcases hw9 x hx with hx | hx; (have := HBL.out x (Or.inl hx); omega); ((try simp only [World.size_alloc] at hx); omega)); (have := HBL.out x (Or.inr hx); omega))))
       have HB9 := hide (show ∀ x, Blk (.slice A9 n9 c9) L x → w6.heap.size ≤ x from fun x hx => hx.elim (fun q => (hw9 x q).elim (fun q => HBL.out x (Or.inl q)) (fun q => by (try simp only [World.size_alloc] at q); omega)) (fun q => HBL.out x (Or.inr q)))
       clear hO9 hg9 hw9
       go_wp2_with (fail)
       all_goals go_roundw
       case rel => exact ⟨j + 1, _, _, by go_num, by omega, HS9, HO9, HB9⟩
       case measure => simp [intOf]; omega
      ·
       skip
       have hdj : decide ((j : Int) < (gl.length : Int)) = false := by simp; omega
       have hje : j = gl.length := by omega
       subst hje
       obtain ⟨AG, cG, LG, rfl, hrG, hnG, hmG⟩ := HO.out.ownRow
       have HLG := hide (show ∀ x, x ∈ LG → w6.heap.size ≤ x from fun x hx => HBL.out x (hmG x hx))
       clear hmG
       simp only [List.length_map, List.length_replicate] at e3 ⊢
       have HFI := hide (store_fin (gl := List.replicate gl.length zeroV) (ng := gl.length) (tr := tr) (by rw [List.length_replicate]) (RS6.out.block hzr (HSQ.out.off.block _ (by omega) RS6.out.1)) (nm := rs.map TRoutine.nm) (HRN.out.offS HSQ.out.off (fun x hx => by have := HLN.out x hx; omega)) (RR6.out.offS HSQ.out.off (fun x hx => by have := HLR.out x hx; omega)) hrG HB.out HNN.out HNR.out hnG (fun x hx hm => by have h1 := HLN.out x hx; have h2 := HLR.out x hm; omega) (fun x hx hm => by have h1 := HLN.out x hx; have h2 := HLG.out x hm; omega) (fun x hx hm => by have h1 := HLR.out x hx; have h2 := HLG.out x hm; omega) (fun x hx => by rcases hx with hx | hx | hx; (have := HLN.out x hx; omega); (have := HLR.out x hx; omega); (have := HLG.out x hx; omega)))
       rw [show (rs.map TRoutine.nm).length = rs.length by simp] at HFI
       skip
       have HRES := hide (RS6.out.block hzr (HSQ.out.off.block _ (by omega) RS6.out.1))
       go_upto_region 12 with (fail)
       refine wp_region_lit ?_
       refine wpList_plain rfl fun K hK => ?_
       go_simp
       refine hK _ _ ?_
       clear hK K
       refine wpList_store_mid rfl 33 (.tmp 6) (.tmp 57) rfl (w.heap.size + 1) 0 #[.slice AN rs.length cN, .slice AR recs.length cR, .slice none 0 0, .slice AG gl.length cG, .string ByteArray.empty, .int .i64 1, .slice none 0 0, .slice none 0 0, .slice none 0 0, .bool tr, .int .i64 0, .int .i64 b, .int .i64 0] rfl rfl HRES.out.there (by kernel_rfl) (by simp [Value.oneCell']) ?_
       refine wpList_namedF fun wz hwz => ?_
       obtain ⟨SZ, OZ, NZ, BZ⟩ := HFI.out wz hwz
       have HBZ := BZ w (HSQ.out.off.toBel hb6 (fun x hx => by omega)) (by omega)
       obtain ⟨-, -, d0, d1, d2, d3, d4, d5, d6, d7, d8, d9, d10, d11, d12⟩ := SZ
       clear hwz BZ HFI
       refine wpList_plain rfl fun K hK => ?_
       go_simp
       refine hK _ _ ?_
       clear hK K
       refine wpList_nil ?_
       go_simp
       rename_i hKr
       refine hKr _ _ ?_
       clear hKr
       refine wp_ret ?_
       exact bodyPost_ret (v := .tuple #[.agg #[.slice AN rs.length cN, .slice AR recs.length cR, .slice none 0 0, .slice AG gl.length cG, .string ByteArray.empty, .int .i64 1, .slice none 0 0, .slice none 0 0, .slice none 0 0, .bool tr, .int .i64 0, .int .i64 b, .int .i64 0], .bool true]) (by simp [results, Tryz.results5, d0, d1, d2, d3, d4, d5, d6, d7, d8, d9, d10, d11, d12, go_sem]; try rfl) rfl ⟨_, _, by rw [HK.out], by unfold newT; rw [if_pos HK.out]; exact OZ, NZ, fun x hx => (by simp only [List.nil_append, List.append_nil] at hx; rcases List.mem_append.1 hx with hx | hx; (have := HLN.out x hx; omega); (rcases List.mem_append.1 hx with hx | hx; (have := HLR.out x hx; omega); (have := HLG.out x hx; omega))), HBZ⟩
end Go.Proofs.YtgofbnmablgedaaGreatDoor
