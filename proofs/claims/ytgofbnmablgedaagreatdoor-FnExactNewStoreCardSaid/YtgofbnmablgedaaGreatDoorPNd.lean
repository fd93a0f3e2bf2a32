/- A new store: the program. -/
import Derived.Test.YtgofbnmablgedaaGreatDoorPNb
import Derived.Test.YtgofbnmablgedaaGreatDoorPV9
namespace Go.Proofs.YtgofbnmablgedaaGreatDoor
set_option linter.unusedVariables false
set_option linter.unusedSimpArgs false
set_option maxRecDepth 100000
open Go.RowKit
theorem str_own (w : World) {s : ByteArray} (h : s.size ≤ maxLen) : Dat.OwnVals w [] [Dat.str s] [.string s] := ⟨[], [], rfl, Dat.own_str.2 ⟨rfl, rfl, h⟩, rfl⟩
theorem ret_named {P : Program} {fn : Func} {Q : Ending → World → Prop} {ex : Exit} {a : Act} {W : World} (h : ∀ wz, wz = W → bodyPost P fn Q ex a wz) : bodyPost P fn Q ex a W := h W rfl
theorem nm_take {rs : List TRoutine} {i : Nat} (h : i < rs.length) : ((rs.take (i + 1)).map TRoutine.nm).map (fun x => [Dat.str x]) = ((rs.take i).map TRoutine.nm).map (fun x => [Dat.str x]) ++ [[Dat.str rs[i].nm]] := by
 rw [List.take_succ_eq_append_getElem h, List.map_append, List.map_append]
 rfl
set_option maxHeartbeats 2000000 in
theorem implNew_any : NewC 7 := by
 intro p b tr S w vs htab hv hwt hb
 have HT := hide htab
 have HV := hide hv
 have HWT := hide hwt
 have HB := hide hb
 have hbI := hb
 unfold InI at hbI
 obtain ⟨rs, recs, gl, mn⟩ := p
 obtain ⟨A0, c0, A1, c1, A2, c2, rfl, g0, g1, g2, gm⟩ := TProgram.vals hv
 have HR0 := hide g0
 have hlc0 := g0.1
 have hcm0 := g0.2.1
 simp only [List.length_map] at hlc0
 unfold maxLen at hcm0
 have HR1 := hide g1
 have hlc1 := g1.1
 have hcm1 := g1.2.1
 simp only [List.length_map] at hlc1
 unfold maxLen at hcm1
 have HR2 := hide g2
 have hlc2 := g2.1
 have hcm2 := g2.2.1
 simp only [List.length_map] at hlc2
 unfold maxLen at hcm2
 clear htab hv hwt hb g0 g1 g2 gm
 obtain ⟨is, his, zs0, zs1, zs2⟩ := info_parts infoStr
 obtain ⟨pb, hpb⟩ : ∃ q, progB (.mk rs recs gl mn) = q := ⟨_, rfl⟩
 have HP := hide hpb
 clear hpb
 go_enter Tryz.func7, Tryz.ntmps7
 go_upto_region 1 with (fail)
 go_cut [21] from 11 (fun v wx => v = .bool (!newOk (.mk rs recs gl mn) b) ∧ Bel w wx ∧ SB wx (w.heap.size + 1) (.slice none 0 0) (.slice none 0 0) (.slice none 0 0) (.slice none 0 0) (.string ByteArray.empty) (.int .i64 0) (.slice none 0 0) (.slice none 0 0) (.slice none 0 0) (.bool false) (.int .i64 0) (.int .i64 0) (.int .i64 0) ∧ wx.cell? ⟨w.heap.size, 0, none⟩ = some (.slice A0 rs.length c0) ∧ wx.cell? ⟨w.heap.size, 1, none⟩ = some (.slice A1 recs.length c1) ∧ wx.cell? ⟨w.heap.size, 2, none⟩ = some (.slice A2 gl.length c2))
 case first =>
  cases pb
  ·
   skip
   have HK := hide (newOk_no (b := b) (Or.inl HP.out))
   go_wp2_with (go_at_call 22; refine (implIsValidProgram_law (.mk rs recs gl mn) S _ _ (HT.out.on bl) (HV.out.bel bl) HWT.out).mono ?_; rintro e w2 ⟨rfl, hb2⟩; rw [HP.out]; (have hz2 := hb2.sz; obtain ⟨hk2_0, hf2_0, hl2_0, hn2_0⟩ := hb2.lay (w.heap.size); obtain ⟨hk2_1, hf2_1, hl2_1, hn2_1⟩ := hb2.lay (w.heap.size + 1)))
   all_goals go_meet
   all_goals exact (⟨by rw [HK.out]; rfl, bl, ⟨hl2_1, fun o => by simp [hf2_1, go_sem], by simp [hk2_1, go_sem]; try rfl, by simp [hk2_1, go_sem]; try rfl, by simp [hk2_1, go_sem]; try rfl, by simp [hk2_1, go_sem]; try rfl, by simp [hk2_1, go_sem]; try rfl, by simp [hk2_1, go_sem]; try rfl, by simp [hk2_1, go_sem]; try rfl, by simp [hk2_1, go_sem]; try rfl, by simp [hk2_1, go_sem]; try rfl, by simp [hk2_1, go_sem]; try rfl, by simp [hk2_1, go_sem]; try rfl, by simp [hk2_1, go_sem]; try rfl, by simp [hk2_1, go_sem]; try rfl⟩, by simp [hk2_0, go_sem], by simp [hk2_0, go_sem], by simp [hk2_0, go_sem]⟩)
  ·
   skip
   by_cases h0 : b < 0
   ·
    skip
    have d0 : decide (b < 0) = true := decide_eq_true h0
    have HK := hide (newOk_no (p := .mk rs recs gl mn) (Or.inr (Or.inl h0)))
    go_wp2_with (go_at_call 22; refine (implIsValidProgram_law (.mk rs recs gl mn) S _ _ (HT.out.on bl) (HV.out.bel bl) HWT.out).mono ?_; rintro e w2 ⟨rfl, hb2⟩; rw [HP.out]; (have hz2 := hb2.sz; obtain ⟨hk2_0, hf2_0, hl2_0, hn2_0⟩ := hb2.lay (w.heap.size); obtain ⟨hk2_1, hf2_1, hl2_1, hn2_1⟩ := hb2.lay (w.heap.size + 1)))
    all_goals go_meet
    all_goals exact (⟨by rw [HK.out]; rfl, bl, ⟨hl2_1, fun o => by simp [hf2_1, go_sem], by simp [hk2_1, go_sem]; try rfl, by simp [hk2_1, go_sem]; try rfl, by simp [hk2_1, go_sem]; try rfl, by simp [hk2_1, go_sem]; try rfl, by simp [hk2_1, go_sem]; try rfl, by simp [hk2_1, go_sem]; try rfl, by simp [hk2_1, go_sem]; try rfl, by simp [hk2_1, go_sem]; try rfl, by simp [hk2_1, go_sem]; try rfl, by simp [hk2_1, go_sem]; try rfl, by simp [hk2_1, go_sem]; try rfl, by simp [hk2_1, go_sem]; try rfl, by simp [hk2_1, go_sem]; try rfl⟩, by simp [hk2_0, go_sem], by simp [hk2_0, go_sem], by simp [hk2_0, go_sem]⟩)
   ·
    skip
    have d0 : decide (b < 0) = false := decide_eq_false h0
    by_cases h1 : 4000 < b
    ·
     skip
     have d1 : decide ((4000 : Int) < b) = true := decide_eq_true h1
     have HK := hide (newOk_no (p := .mk rs recs gl mn) (Or.inr (Or.inr h1)))
     go_wp2_with (go_at_call 22; refine (implIsValidProgram_law (.mk rs recs gl mn) S _ _ (HT.out.on bl) (HV.out.bel bl) HWT.out).mono ?_; rintro e w2 ⟨rfl, hb2⟩; rw [HP.out]; (have hz2 := hb2.sz; obtain ⟨hk2_0, hf2_0, hl2_0, hn2_0⟩ := hb2.lay (w.heap.size); obtain ⟨hk2_1, hf2_1, hl2_1, hn2_1⟩ := hb2.lay (w.heap.size + 1)))
     all_goals go_meet
     all_goals exact (⟨by rw [HK.out]; rfl, bl, ⟨hl2_1, fun o => by simp [hf2_1, go_sem], by simp [hk2_1, go_sem]; try rfl, by simp [hk2_1, go_sem]; try rfl, by simp [hk2_1, go_sem]; try rfl, by simp [hk2_1, go_sem]; try rfl, by simp [hk2_1, go_sem]; try rfl, by simp [hk2_1, go_sem]; try rfl, by simp [hk2_1, go_sem]; try rfl, by simp [hk2_1, go_sem]; try rfl, by simp [hk2_1, go_sem]; try rfl, by simp [hk2_1, go_sem]; try rfl, by simp [hk2_1, go_sem]; try rfl, by simp [hk2_1, go_sem]; try rfl, by simp [hk2_1, go_sem]; try rfl⟩, by simp [hk2_0, go_sem], by simp [hk2_0, go_sem], by simp [hk2_0, go_sem]⟩)
    ·
     skip
     have d1 : decide ((4000 : Int) < b) = false := decide_eq_false h1
     have HK := hide (newOk_yes (b := b) HP.out (by omega) (by omega))
     go_wp2_with (go_at_call 22; refine (implIsValidProgram_law (.mk rs recs gl mn) S _ _ (HT.out.on bl) (HV.out.bel bl) HWT.out).mono ?_; rintro e w2 ⟨rfl, hb2⟩; rw [HP.out]; (have hz2 := hb2.sz; obtain ⟨hk2_0, hf2_0, hl2_0, hn2_0⟩ := hb2.lay (w.heap.size); obtain ⟨hk2_1, hf2_1, hl2_1, hn2_1⟩ := hb2.lay (w.heap.size + 1)))
     all_goals go_meet
     all_goals exact (⟨by rw [HK.out]; rfl, bl, ⟨hl2_1, fun o => by simp [hf2_1, go_sem], by simp [hk2_1, go_sem]; try rfl, by simp [hk2_1, go_sem]; try rfl, by simp [hk2_1, go_sem]; try rfl, by simp [hk2_1, go_sem]; try rfl, by simp [hk2_1, go_sem]; try rfl, by simp [hk2_1, go_sem]; try rfl, by simp [hk2_1, go_sem]; try rfl, by simp [hk2_1, go_sem]; try rfl, by simp [hk2_1, go_sem]; try rfl, by simp [hk2_1, go_sem]; try rfl, by simp [hk2_1, go_sem]; try rfl, by simp [hk2_1, go_sem]; try rfl, by simp [hk2_1, go_sem]; try rfl⟩, by simp [hk2_0, go_sem], by simp [hk2_0, go_sem], by simp [hk2_0, go_sem]⟩)
 case rest =>
  obtain ⟨rfl, hb3, RS0, k0, k1, k2⟩ := hcut
  obtain ⟨w3, rfl⟩ : ∃ w3, w3 = wc := ⟨_, rfl⟩
  have RS := hide RS0
  have hz3 := RS0.1
  have hlA : w.heap.size < w3.heap.size := by omega
  have hnA : ¬ w.heap.size = w3.heap.size := by omega
  have hnB : ¬ w.heap.size + 1 = w3.heap.size := by omega
  clear RS0
  cases hK : newOk (.mk rs recs gl mn) b
  ·
   skip
   (try simp only [Bool.not_false])
   have RX := RS.out
   obtain ⟨xl, xf, x0, x1, x2, x3, x4, x5, x6, x7, x8, x9, x10, x11, x12⟩ := RX
   have HK := hide hK
   clear hK
   go_wp2_with (fail)
   all_goals exact bodyPost_ret (v := .tuple #[.agg #[.slice none 0 0, .slice none 0 0, .slice none 0 0, .slice none 0 0, .string ByteArray.empty, .int .i64 0, .slice none 0 0, .slice none 0 0, .slice none 0 0, .bool false, .int .i64 0, .int .i64 0, .int .i64 0], .bool false]) (by simp [results, Tryz.results7, go_sem, *]; try rfl) rfl (new_fail HK.out bl)
  ·
   skip
   (try simp only [Bool.not_true])
   have hpt : progB (.mk rs recs gl mn) = true := by unfold newOk at hK; simp only [Bool.and_eq_true] at hK; exact hK.1
   have HK := hide hK
   obtain ⟨q1, q2, q3, q4⟩ := prog_parts hpt
   have HFL := hide q4
   clear hpt q4 hK
   go_wp2_with (fail)
   go_loopw [8, 27] (fun lv iv wr => ∃ (i : Nat) (v : Value) (L : List Nat), v = lv ∧ iv = .int .i64 i ∧ i ≤ rs.length ∧ Hid (OwnD wr 9 1 v L (((rs.take i).map TRoutine.nm).map (fun x => [Dat.str x]))) ∧ Hid (∀ b, Blk v L b → w3.heap.size ≤ b) ∧ Hid (Bel w3 wr)) (fun _ iv _ => rs.length - (intOf iv).toNat)
   case atStart => exact ⟨0, _, [], rfl, rfl, Nat.zero_le _, hide (OwnD.lit0 _ _ _), hide (fun b hb => by rcases hb with hb | hb; (have e := Option.some.inj (show some w3.heap.size = some b from hb); omega); cases hb), hide bl⟩
   case round =>
    obtain ⟨i, v, L, rfl, rfl, hi, HO, HBL, HBR⟩ := hrel
    by_cases h : i < rs.length
    ·
     skip
     have hdc : decide ((i : Int) < (rs.length : Int)) = true := by simp; omega
     have hi0 : (0 : Int) ≤ (i : Int) := by omega
     have hi1 : (i : Int) < (rs.length : Int) := by omega
     have hbw := Bel.trans hb3 HBR.out
     (obtain ⟨b1, o1, x1_0, x1_1, x1_2, x1_3, x1_4, x1_5, x1_6, x1_7, x1_8, A1_2, C1_2, A1_8, C1_8, hA1, hS1, hl1, hx1, hv1, g1_0, g1_1, g1_2, g1_3, g1_4, g1_5, g1_6, g1_7, g1_8, c1_0, c1_1, c1_2, c1_3, c1_4, c1_5, c1_6, c1_7, c1_8⟩ := TRoutine.at HR0.out i h; subst hA1; have HV1 := hide (Dat.HoldVals.bel hbw hv1); have hh1 := hbw.box b1 hl1; have hw1 := Nat.lt_of_lt_of_le hl1 (Bel.size hbw); replace c1_0 := (hh1 _).trans c1_0; replace c1_1 := (hh1 _).trans c1_1; replace c1_2 := (hh1 _).trans c1_2; replace c1_3 := (hh1 _).trans c1_3; replace c1_4 := (hh1 _).trans c1_4; replace c1_5 := (hh1 _).trans c1_5; replace c1_6 := (hh1 _).trans c1_6; replace c1_7 := (hh1 _).trans c1_7; replace c1_8 := (hh1 _).trans c1_8; have HX1 := hide hx1; have GR1_2 := hide g1_2; have GR1_8 := hide g1_8; clear hh1 hv1 hx1 hS1 g1_2 g1_8)
     go_upto_region 7 with (fail)
     refine wp_named2 fun wA hwA => ?_
     have hbA : Bel wr wA := by rw [← hwA]; exact bl
     have kA : wA.cell? ⟨wr.heap.size, 0, none⟩ = some (.string x1_0) := by rw [← hwA]; simp [go_sem]
     have hzA : wr.heap.size < wA.heap.size := by rw [← hwA]; simp
     clear hwA
     have hown8 := OwnD.lit1 (k := 1) wA 9 (str_own wA g1_0) rfl List.nodup_nil
     obtain ⟨nw, hsr⟩ := hown8.src
     have HSR := hide hsr
     clear hown8 hsr
     have HO8 := hide (HO.out.bel (show Bel wr (wA.alloc (.cells #[.string x1_0] 9)) from bl))
     have hb8 : Bel w3 (wA.alloc (.cells #[.string x1_0] 9)) := Bel.trans HBR.out bl
     have HE := hide (show rs[i].nm = x1_0 by rw [HX1.out]; rfl)
     go_wp2_with (at_builtin; refine wpList_append_D rfl (.tmp 31) (.tmp 34) 24 rfl 9 is (.string ByteArray.empty) 1 16 Tryz.underlying24 his zs0 zs1 zs2 (by decide) (by decide) HO8.out HSR.out 1 rfl rfl ?c1 ?c2 ?c3 ?_)
     case c1 => exact fun b hb hm => by cases hm
     case c2 => simp only [List.length_map, List.length_take]; omega
     case c3 => simp only [List.length_map, List.length_take]; unfold maxLen; omega
     intro v9 w9 hO9 hg9 hw9
     have hb9 : Bel w3 w9 := Below.grown hb8 hg9 hb8.size (fun k hk => HBL.out k (Or.inl hk))
     have HO9 := hide (show OwnD w9 9 1 v9 L (((rs.take (i + 1)).map TRoutine.nm).map (fun x => [Dat.str x])) by rw [nm_take h, HE.out]; simpa [List.map_take] using hO9)
     have hz8 := hb8.size
     rw [World.size_alloc] at hz8
     have HB9 := hide (show ∀ b, Blk v9 L b → w3.heap.size ≤ b from fun b hb => hb.elim (fun q => (hw9 b q).elim (fun q => HBL.out b (Or.inl q)) (fun q => by (try simp only [World.size_alloc] at q); omega)) (fun q => HBL.out b (Or.inr q)))
     clear hO9 hg9 hw9
     go_wp2_with (fail)
     all_goals go_roundw
     case rel => exact ⟨i + 1, _, _, rfl, by go_num, by omega, hide (HO9.out.bel bl), hide HB9.out, hide (Bel.trans hb9 bl)⟩
     case measure => simp [intOf]; omega
    ·
     skip
     have hdc : decide ((i : Int) < (rs.length : Int)) = false := by simp; omega
     have hO := HO.out
     rw [List.take_of_length_le (by omega)] at hO
     obtain ⟨A9, c9, L9, rfl, hr9, hn9, hm9⟩ := hO.ownRow
     have HR9 := hide hr9
     have HN9 := hide hn9
     have HL9 := hide (show ∀ b, b ∈ L9 → w3.heap.size ≤ b from fun b hb => HBL.out b (hm9 b hb))
     clear hO hr9 hn9 hm9
     simp only [List.length_map]
     have y0 := (HBR.out.box w.heap.size (by omega) 0).trans k0
     have y1 := (HBR.out.box w.heap.size (by omega) 1).trans k1
     have y2 := (HBR.out.box w.heap.size (by omega) 2).trans k2
     have hzr := HBR.out.size
     have HLE := hide (show (rs.map TRoutine.nm).length = rs.length by simp)
     have RS9 := RS.out.on HBR.out
     obtain ⟨rl, rf, r0, r1, r2, r3, r4, r5, r6, r7, r8, r9, r10, r11, r12⟩ := RS9
     go_wp2_with (go_at_call 23; have hcc := implNewSt_any (rs.map TRoutine.nm) recs gl.length b tr S wr A9 A1 c9 c1 L9 HR9.out HN9.out (Row.bel (Bel.trans hb3 HBR.out) HR1.out) (by omega) HFL.out (by omega) HB.out; rw [HLE.out] at hcc; refine hcc.mono ?_; rintro e w5 ⟨A5, c5, A6, c6, L6, rfl, hO5, hN5, hL5, hb5⟩; have HO5 := hide hO5; have HN5 := hide hN5; have HL5 := hide (show ∀ x, x ∈ L9 ++ L6 → w3.heap.size ≤ x from fun x hx => (List.mem_append.1 hx).elim (HL9.out x) (fun q => by have := hL5 x q; omega)); clear hO5 hN5 hL5 hcc; have RS5 := RS.out.on (Bel.trans HBR.out hb5); obtain ⟨sl, sf, s0, s1, s2, s3, s4, s5, s6, s7, s8, s9, s10, s11, s12⟩ := RS5)
     refine ret_named fun wz hwz => ?_
     have hbz := Bel.trans hb3 (Bel.trans HBR.out hb5)
     obtain ⟨SZ, OZ, BZ⟩ := store13 (RS.out.on (Bel.trans HBR.out hb5)) HO5.out (fun x hx => by have := HL5.out x hx; omega) wz hwz
     have HBZ := BZ w hbz (by omega)
     obtain ⟨-, -, d0, d1, d2, d3, d4, d5, d6, d7, d8, d9, d10, d11, d12⟩ := SZ
     clear hwz BZ
     exact bodyPost_ret (v := .tuple #[.agg #[.slice A9 rs.length c9, .slice A5 recs.length c5, .slice none 0 0, .slice A6 gl.length c6, .string ByteArray.empty, .int .i64 1, .slice none 0 0, .slice none 0 0, .slice none 0 0, .bool tr, .int .i64 0, .int .i64 b, .int .i64 0], .bool true]) (by simp [results, Tryz.results7, d0, d1, d2, d3, d4, d5, d6, d7, d8, d9, d10, d11, d12, go_sem]; try rfl) rfl ⟨_, L9 ++ L6, by rw [HK.out], by unfold newT; rw [if_pos HK.out]; exact OZ, HN5.out, fun x hx => by have := HL5.out x hx; omega, HBZ⟩
end Go.Proofs.YtgofbnmablgedaaGreatDoor
