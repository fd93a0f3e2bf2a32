/- Are a unit's names distinct: the program. -/
import Derived.Test.YtjodcciloflgbaaDoorPYw
namespace Go.Proofs.YtjodcciloflgbaaDoor
set_option linter.unusedVariables false
set_option linter.unusedSimpArgs false
set_option maxRecDepth 100000
open Go.RowKit
theorem names_ok {R : List TRecordType} {G : List ByteArray} {P : List TProcedure} (h : unitB (.mk R G P) = true) : R.length ≤ 8 ∧ G.length ≤ 12 ∧ P.length ≤ 12 ∧ ∀ x ∈ G, x.size ≤ maxLen := by
 simp only [unitB, headU, Bool.and_eq_true, decide_eq_true_eq] at h
 exact ⟨h.1.1.1.1.1, h.1.1.1.1.2, h.1.1.1.2, fun x hx => name_size (List.all_eq_true.1 h.1.1.2 x hx)⟩
abbrev NamC (f : FuncId) : Prop := ∀ (R : List TRecordType) (G : List ByteArray) (P : List TProcedure) (S : Nat → Prop) (w : World) (us : List Value), Sp w → Dat.HoldVals w S (TUnit.mk R G P).D us → unitB (.mk R G P) = true →
 Calls Tryd.prog f #[.agg us.toArray] w fun e w' => e = .returned (.tuple #[.int .i64 (nmR G P [] R).1, .int .i64 (nmR G P [] R).2]) ∧ Bel w w'
set_option maxHeartbeats 16000000 in
theorem checkNames_any : NamC 38 := by
 intro R G P S w us hsp hu hval
 have HT := hide hsp
 have HU := hide hu
 have HVAL := hide hval
 have HNO := hide (names_ok hval)
 obtain ⟨A0, c0, A1, c1, A2, c2, rfl, g0, g1, g2⟩ := TUnit.vals hu
 have HR0 := hide g0
 have hl0 := g0.1
 have hc0 := g0.2.1
 simp only [List.length_map] at hl0
 unfold maxLen at hc0
 have HR1 := hide g1
 have hl1 := g1.1
 have hc1 := g1.2.1
 simp only [List.length_map] at hl1
 unfold maxLen at hc1
 have HR2 := hide g2
 have hl2 := g2.1
 have hc2 := g2.2.1
 simp only [List.length_map] at hl2
 unfold maxLen at hc2
 have hR8 := HNO.out.1
 have hG12 := HNO.out.2.1
 have hP12 := HNO.out.2.2.1
 clear hsp hu hval g0 g1 g2
 obtain ⟨i0, hi0, iz0, iz1, iz2⟩ := info_parts infoStr
 have hmf : ∀ (fn : Fn) (first cap : Array Value) (w : World), (Instr.makeFunc fn first cap).run Tryd.prog w = .ok (.func fn first cap) w := fun _ _ _ _ => rfl
 go_enter Tryd.func38, Tryd.ntmps38
 go_upto_region 2 with (fail)
 have hbI : Bel w (((w.alloc (.cells #[.slice A0 R.length c0, .slice A1 G.length c1, .slice A2 P.length c2] 33)).alloc (.cells #[] 9)).alloc (.cells #[(.slice (some ⟨w.heap.size + 1, 0, none⟩) 0 0)] 23)) := bl
 have hoI : OwnS w (((w.alloc (.cells #[.slice A0 R.length c0, .slice A1 G.length c1, .slice A2 P.length c2] 33)).alloc (.cells #[] 9)).alloc (.cells #[(.slice (some ⟨w.heap.size + 1, 0, none⟩) 0 0)] 23)) (.slice (some ⟨w.heap.size + 1, 0, none⟩) 0 0) [] := OwnS.bel (show OwnS w ((w.alloc (.cells #[.slice A0 R.length c0, .slice A1 G.length c1, .slice A2 P.length c2] 33)).alloc (.cells #[] 9)) (.slice (some ⟨w.heap.size + 1, 0, none⟩) 0 0) [] from ⟨by have h := World.ownsRow_made (base := w.heap.size) (e := 9) (size := 1) (w.alloc (.cells #[.slice A0 R.length c0, .slice A1 G.length c1, .slice A2 P.length c2] 33)) #[] 0 (by simp) (by unfold maxLen; omega) rfl; simpa using h, fun x hx => by cases hx⟩) bl
 have hobI : (((w.alloc (.cells #[.slice A0 R.length c0, .slice A1 G.length c1, .slice A2 P.length c2] 33)).alloc (.cells #[] 9)).alloc (.cells #[(.slice (some ⟨w.heap.size + 1, 0, none⟩) 0 0)] 23)).heap[(w.heap.size + 2)]? = some (Obj.cells #[(.slice (some ⟨w.heap.size + 1, 0, none⟩) 0 0)] 23) := by have h := heap_alloc_new ((w.alloc (.cells #[.slice A0 R.length c0, .slice A1 G.length c1, .slice A2 P.length c2] 33)).alloc (.cells #[] 9)) (.cells #[(.slice (some ⟨w.heap.size + 1, 0, none⟩) 0 0)] 23); simpa using h
 have huI : (((w.alloc (.cells #[.slice A0 R.length c0, .slice A1 G.length c1, .slice A2 P.length c2] 33)).alloc (.cells #[] 9)).alloc (.cells #[(.slice (some ⟨w.heap.size + 1, 0, none⟩) 0 0)] 23)).heap[w.heap.size]? = some (Obj.cells #[.slice A0 R.length c0, .slice A1 G.length c1, .slice A2 P.length c2] 33) := by rw [heap_alloc_old _ _ (by simp; omega), heap_alloc_old _ _ (by simp), heap_alloc_new]
 have HBI := hide hbI
 have HOI := hide hoI
 have HOBI := hide hobI
 have HUI := hide huI
 have hszI : (((w.alloc (.cells #[.slice A0 R.length c0, .slice A1 G.length c1, .slice A2 P.length c2] 33)).alloc (.cells #[] 9)).alloc (.cells #[(.slice (some ⟨w.heap.size + 1, 0, none⟩) 0 0)] 23)).heap.size = w.heap.size + 3 := by simp
 clear hbI hoI hobI huI
 go_wp2_with (fail)
 go_loopw [17] (fun iv wr => ∃ (m : Nat) (seen : List ByteArray) (v : Value), iv = .int .i64 m ∧ m ≤ R.length ∧ Hid (nmR G P [] R = nmR G P seen (R.drop m)) ∧ seen.length ≤ m ∧ OwnS w wr v seen ∧ wr.heap[(w.heap.size + 2)]? = some (Obj.cells #[v] 23) ∧ Bel w wr ∧ KeptB (w.heap.size + 2) (((w.alloc (.cells #[.slice A0 R.length c0, .slice A1 G.length c1, .slice A2 P.length c2] 33)).alloc (.cells #[] 9)).alloc (.cells #[(.slice (some ⟨w.heap.size + 1, 0, none⟩) 0 0)] 23)) wr) (fun iv _ => R.length - (intOf iv).toNat)
 case atStart => exact ⟨0, [], _, rfl, by omega, hide (by rw [List.drop_zero]), by simp, by first | exact HOI.out | exact OwnS.bel HOI.out bl, (Below.block (show Bel (((w.alloc (.cells #[.slice A0 R.length c0, .slice A1 G.length c1, .slice A2 P.length c2] 33)).alloc (.cells #[] 9)).alloc (.cells #[(.slice (some ⟨w.heap.size + 1, 0, none⟩) 0 0)] 23)) _ from bl) _ (heap_lt HOBI.out)).trans HOBI.out, bl, KeptB.ofBel bl⟩
 case round => as_aux_lemma =>
  obtain ⟨m, seen, v, rfl, hm, hinv, hse, hol, hob, hbx, hkw⟩ := hrel
  have HOL := hide hol
  have HOB := hide hob
  have HKW := hide hkw
  have hbw : Bel w wr := hbx
  have hsz := hkw.1
  rw [hszI] at hsz
  have xu := KeptB.box hkw (show w.heap.size ≠ (w.heap.size + 2) by omega) HUI.out (by decide)
  have uu0 : wr.cell? ⟨w.heap.size, 0, none⟩ = some (.slice A0 R.length c0) := (xu 0).trans (by rw [cell_of_obj HUI.out]; rfl)
  have uu1 : wr.cell? ⟨w.heap.size, 1, none⟩ = some (.slice A1 G.length c1) := (xu 1).trans (by rw [cell_of_obj HUI.out]; rfl)
  have uu2 : wr.cell? ⟨w.heap.size, 2, none⟩ = some (.slice A2 P.length c2) := (xu 2).trans (by rw [cell_of_obj HUI.out]; rfl)
  have hq0 : w.heap.size < wr.heap.size := by omega
  have hq1 : ¬ w.heap.size = wr.heap.size := by omega
  have hq2 : (w.heap.size + 2) < wr.heap.size := by omega
  have hq3 : ¬ (w.heap.size + 2) = wr.heap.size := by omega
  clear hol hob hkw xu
  by_cases h1 : m < R.length
  case neg => as_aux_lemma =>
   have hd : decide ((m : Int) < (R.length : Int)) = false := by simp; omega
   have hdn : decide (m < R.length) = false := by simp; omega
   have hdm : ¬ m < R.length := h1
   have HIN := hide (hinv.out.trans (nmR_end (by omega)))
   clear hinv
   go_wp2_with (fail)
   go_loopw [36] (fun iv wr => ∃ (m : Nat) (seen : List ByteArray) (v : Value), iv = .int .i64 m ∧ m ≤ G.length ∧ Hid (nmR G P [] R = nmG P seen (G.drop m)) ∧ seen.length ≤ 8 + m ∧ OwnS w wr v seen ∧ wr.heap[(w.heap.size + 2)]? = some (Obj.cells #[v] 23) ∧ Bel w wr ∧ KeptB (w.heap.size + 2) (((w.alloc (.cells #[.slice A0 R.length c0, .slice A1 G.length c1, .slice A2 P.length c2] 33)).alloc (.cells #[] 9)).alloc (.cells #[(.slice (some ⟨w.heap.size + 1, 0, none⟩) 0 0)] 23)) wr) (fun iv _ => G.length - (intOf iv).toNat)
   case atStart => exact ⟨0, seen, v, rfl, by omega, hide HIN.out, by omega, OwnS.bel HOL.out bl, (Below.block (show Bel wr _ from bl) _ hq2).trans HOB.out, bl, KeptB.trans HKW.out (KeptB.ofBel bl)⟩
   case round => as_aux_lemma =>
    clear HOL HOB HKW HIN hbw hsz uu0 uu1 uu2 hq0 hq1 hq2 hq3 h1 hd hdn hdm hse hbx hm
    obtain ⟨m, seen, v, rfl, hm, hinv, hse, hol, hob, hbx, hkw⟩ := hrel
    have HOL := hide hol
    have HOB := hide hob
    have HKW := hide hkw
    have hbw : Bel w wr := hbx
    have hsz := hkw.1
    rw [hszI] at hsz
    have xu := KeptB.box hkw (show w.heap.size ≠ (w.heap.size + 2) by omega) HUI.out (by decide)
    have uu0 : wr.cell? ⟨w.heap.size, 0, none⟩ = some (.slice A0 R.length c0) := (xu 0).trans (by rw [cell_of_obj HUI.out]; rfl)
    have uu1 : wr.cell? ⟨w.heap.size, 1, none⟩ = some (.slice A1 G.length c1) := (xu 1).trans (by rw [cell_of_obj HUI.out]; rfl)
    have uu2 : wr.cell? ⟨w.heap.size, 2, none⟩ = some (.slice A2 P.length c2) := (xu 2).trans (by rw [cell_of_obj HUI.out]; rfl)
    have hq0 : w.heap.size < wr.heap.size := by omega
    have hq1 : ¬ w.heap.size = wr.heap.size := by omega
    have hq2 : (w.heap.size + 2) < wr.heap.size := by omega
    have hq3 : ¬ (w.heap.size + 2) = wr.heap.size := by omega
    clear hol hob hkw xu
    by_cases h1 : m < G.length
    case neg => as_aux_lemma =>
     have hd : decide ((m : Int) < (G.length : Int)) = false := by simp; omega
     have hdn : decide (m < G.length) = false := by simp; omega
     have hdm : ¬ m < G.length := h1
     have HIN := hide (hinv.out.trans (nmG_end (by omega)))
     clear hinv
     go_wp2_with (fail)
     go_loopw [47] (fun iv wr => ∃ (m : Nat) (seen : List ByteArray) (v : Value), iv = .int .i64 m ∧ m ≤ P.length ∧ Hid (nmR G P [] R = nmP seen (P.drop m)) ∧ seen.length ≤ 20 + m ∧ OwnS w wr v seen ∧ wr.heap[(w.heap.size + 2)]? = some (Obj.cells #[v] 23) ∧ Bel w wr ∧ KeptB (w.heap.size + 2) (((w.alloc (.cells #[.slice A0 R.length c0, .slice A1 G.length c1, .slice A2 P.length c2] 33)).alloc (.cells #[] 9)).alloc (.cells #[(.slice (some ⟨w.heap.size + 1, 0, none⟩) 0 0)] 23)) wr) (fun iv _ => P.length - (intOf iv).toNat)
     case atStart => exact ⟨0, seen, v, rfl, by omega, hide HIN.out, by omega, OwnS.bel HOL.out bl, (Below.block (show Bel wr _ from bl) _ hq2).trans HOB.out, bl, KeptB.trans HKW.out (KeptB.ofBel bl)⟩
     case round => as_aux_lemma =>
      clear HOL HOB HKW HIN hbw hsz uu0 uu1 uu2 hq0 hq1 hq2 hq3 h1 hd hdn hdm hse hbx hm
      obtain ⟨m, seen, v, rfl, hm, hinv, hse, hol, hob, hbx, hkw⟩ := hrel
      have HOL := hide hol
      have HOB := hide hob
      have HKW := hide hkw
      have hbw : Bel w wr := hbx
      have hsz := hkw.1
      rw [hszI] at hsz
      have xu := KeptB.box hkw (show w.heap.size ≠ (w.heap.size + 2) by omega) HUI.out (by decide)
      have uu0 : wr.cell? ⟨w.heap.size, 0, none⟩ = some (.slice A0 R.length c0) := (xu 0).trans (by rw [cell_of_obj HUI.out]; rfl)
      have uu1 : wr.cell? ⟨w.heap.size, 1, none⟩ = some (.slice A1 G.length c1) := (xu 1).trans (by rw [cell_of_obj HUI.out]; rfl)
      have uu2 : wr.cell? ⟨w.heap.size, 2, none⟩ = some (.slice A2 P.length c2) := (xu 2).trans (by rw [cell_of_obj HUI.out]; rfl)
      have hq0 : w.heap.size < wr.heap.size := by omega
      have hq1 : ¬ w.heap.size = wr.heap.size := by omega
      have hq2 : (w.heap.size + 2) < wr.heap.size := by omega
      have hq3 : ¬ (w.heap.size + 2) = wr.heap.size := by omega
      clear hol hob hkw xu
      by_cases h1 : m < P.length
      case neg => as_aux_lemma =>
       have hd : decide ((m : Int) < (P.length : Int)) = false := by simp; omega
       have hdn : decide (m < P.length) = false := by simp; omega
       have hdm : ¬ m < P.length := h1
       have HIN := hide (hinv.out.trans (nmP_end (by omega)))
       clear hinv
       go_wp2_with (fail)
       all_goals
        go_returns
        exact ⟨ret_pair HIN.out, bl⟩
      case pos =>
      have hd : decide ((m : Int) < (P.length : Int)) = true := by simp; omega
      have hdn : decide (m < P.length) = true := by simp; omega
      have HPP := hide (proc_parts (proc_ok HVAL.out h1))
      (obtain ⟨b1, o1, x1_0, x1_1, x1_2, x1_3, x1_4, x1_5, x1_6, x1_7, x1_8, A1_1, C1_1, A1_2, C1_2, A1_7, C1_7, hA1, hS1, hl1, hx1, hv1, g1_0, g1_1, g1_2, g1_3, g1_4, g1_5, g1_6, g1_7, g1_8, c1_0, c1_1, c1_2, c1_3, c1_4, c1_5, c1_6, c1_7, c1_8⟩ := TProcedure.at HR2.out m h1; subst hA1; have HV1 := hide (Dat.HoldVals.bel hbw hv1); have hh1 := hbw.box b1 hl1; have hw1 := Nat.lt_of_lt_of_le hl1 (Bel.size hbw); replace c1_0 := (hh1 _).trans c1_0; replace c1_1 := (hh1 _).trans c1_1; replace c1_2 := (hh1 _).trans c1_2; replace c1_3 := (hh1 _).trans c1_3; replace c1_4 := (hh1 _).trans c1_4; replace c1_5 := (hh1 _).trans c1_5; replace c1_6 := (hh1 _).trans c1_6; replace c1_7 := (hh1 _).trans c1_7; replace c1_8 := (hh1 _).trans c1_8; have HX1 := hide hx1; have GR1_1 := hide g1_1; have GR1_2 := hide g1_2; have GR1_7 := hide g1_7; clear hh1 hv1 hx1 hS1 g1_1 g1_2 g1_7)
      have hne1 : ¬ b1 = wr.heap.size := by omega
      have HNM := hide (show P[m].nm = x1_0 ∧ P[m].pars = x1_1 ∧ P[m].locs = x1_2 ∧ P[m].line = x1_8 by rw [HX1.out]; exact ⟨rfl, rfl, rfl, rfl⟩)
      have HIN := hide (hinv.out.trans (nmP_at h1))
      clear hinv
      have HP1 := hide (show x1_1.length ≤ 6 ∧ x1_2.length ≤ 8 ∧ x1_1.all nameB = true ∧ x1_2.all nameB = true by have h := HPP.out; rw [HNM.out.2.1, HNM.out.2.2.1] at h; exact ⟨h.1, h.2.1, h.2.2.2.2.1, h.2.2.2.2.2⟩)
      have h61 := HP1.out.1
      have h82 := HP1.out.2.1
      have HSZ := hide (show ∀ x ∈ x1_1 ++ x1_2, x.size ≤ maxLen from fun x hx => name_size (by rcases List.mem_append.1 hx with h | h; exact List.all_eq_true.1 HP1.out.2.2.1 x h; exact List.all_eq_true.1 HP1.out.2.2.2 x h))
      obtain ⟨bt, hbt⟩ : ∃ bt, takB seen x1_0 = bt := ⟨_, rfl⟩
      obtain ⟨bw, hbw2⟩ : ∃ bw, twiceB (x1_1 ++ x1_2) = bw := ⟨_, rfl⟩
      have HTK := hide hbt
      have HTW := hide hbw2
      clear hbt hbw2
      have HNX := hide (show nmR G P [] R = if bt || bw then (2, x1_8) else nmP (seen ++ [x1_0]) (P.drop (m + 1)) by rw [HIN.out, HNM.out.1, HNM.out.2.1, HNM.out.2.2.1, HNM.out.2.2.2, HTK.out, HTW.out])
      have HX0 := hide g1_0
      go_upto_region 18 with (fail)
      go_cut [64] from 51 to 67 (fun r wx => ∃ v2, r = .bool (bt || bw) ∧ OwnS w wx v2 (seen ++ [x1_0]) ∧ wx.heap[(w.heap.size + 2)]? = some (Obj.cells #[v2] 23) ∧ Bel w wx ∧ KeptB (w.heap.size + 2) (wr.alloc (.cells #[.string x1_0, .slice A1_1 x1_1.length C1_1, .slice A1_2 x1_2.length C1_2, .int .i64 x1_3, .string x1_4, .int .i64 x1_5, .int .i64 x1_6, .slice A1_7 x1_7.length C1_7, .int .i64 x1_8] 62)) wx)
      case first =>
       cases bt
       case true => as_aux_lemma =>
        refine wp_region_held_drew (S := fun w' => w'.cell? ⟨wr.heap.size, 0, none⟩ = some (.string x1_0) ∧ w'.cell? ⟨wr.heap.size, 1, none⟩ = some (.slice A1_1 x1_1.length C1_1) ∧ w'.cell? ⟨wr.heap.size, 2, none⟩ = some (.slice A1_2 x1_2.length C1_2)) (by kernel_rfl) ?_ (fun hHeld => ?_)
        ·
         exact ⟨by simp, by simp, by simp⟩
        refine tkI 0 ?_
        refine tkI 1 ?_
        refine tkI 2 ?_
        refine wpAnyH_ready (rs := [3]) (by kernel_rfl) (by simp) ?_
        refine AllReadyH.cons (o := _) rfl (fun K hK => ?_) AllReadyH.nil
        go_simp
        clear hHeld
        (go_at_call 59; refine (taken_any w _ (w.heap.size + 2) v seen x1_0 HT.out (Bel.trans hbw bl) (OwnS.bel HOL.out bl) ((Below.block (show Bel wr _ from bl) (w.heap.size + 2) hq2).trans HOB.out) (by omega) HX0.out (by omega)).mono ?_; rintro e w2 ⟨v2, rfl, ho2, hob2, hbB2, hk2⟩; rw [HTK.out]; have xb := KeptB.box hk2 (show wr.heap.size ≠ (w.heap.size + 2) by omega) (show (World.drew (wr.alloc (.cells #[.string x1_0, .slice A1_1 x1_1.length C1_1, .slice A1_2 x1_2.length C1_2, .int .i64 x1_3, .string x1_4, .int .i64 x1_5, .int .i64 x1_6, .slice A1_7 x1_7.length C1_7, .int .i64 x1_8] 62))).heap[wr.heap.size]? = some (Obj.cells #[.string x1_0, .slice A1_1 x1_1.length C1_1, .slice A1_2 x1_2.length C1_2, .int .i64 x1_3, .string x1_4, .int .i64 x1_5, .int .i64 x1_6, .slice A1_7 x1_7.length C1_7, .int .i64 x1_8] 62) from heap_alloc_new wr _) (by decide); have b_0 : w2.cell? ⟨wr.heap.size, 0, none⟩ = some (.string x1_0) := (xb 0).trans (by simp); have b_1 : w2.cell? ⟨wr.heap.size, 1, none⟩ = some (.slice A1_1 x1_1.length C1_1) := (xb 1).trans (by simp); have b_2 : w2.cell? ⟨wr.heap.size, 2, none⟩ = some (.slice A1_2 x1_2.length C1_2) := (xb 2).trans (by simp); have b_3 : w2.cell? ⟨wr.heap.size, 3, none⟩ = some (.int .i64 x1_3) := (xb 3).trans (by simp); have b_4 : w2.cell? ⟨wr.heap.size, 4, none⟩ = some (.string x1_4) := (xb 4).trans (by simp); have b_5 : w2.cell? ⟨wr.heap.size, 5, none⟩ = some (.int .i64 x1_5) := (xb 5).trans (by simp); have b_6 : w2.cell? ⟨wr.heap.size, 6, none⟩ = some (.int .i64 x1_6) := (xb 6).trans (by simp); have b_7 : w2.cell? ⟨wr.heap.size, 7, none⟩ = some (.slice A1_7 x1_7.length C1_7) := (xb 7).trans (by simp); have b_8 : w2.cell? ⟨wr.heap.size, 8, none⟩ = some (.int .i64 x1_8) := (xb 8).trans (by simp); have hsz2 := hk2.1; (try simp only [World.size_alloc, World.size_drew] at hsz2); have hlb : wr.heap.size < w2.heap.size := (by omega); have hnb : ¬ wr.heap.size = w2.heap.size := (by omega); have HO2 := hide ho2; have HOB2 := hide hob2; have HK2 := hide hk2; clear ho2 hob2 hk2 xb)
        have hbw2 : Bel w2 w2 := Bel.refl w2
        have HBW := hide hbB2
        have HKP := hide (show KeptB (w.heap.size + 2) (wr.alloc (.cells #[.string x1_0, .slice A1_1 x1_1.length C1_1, .slice A1_2 x1_2.length C1_2, .int .i64 x1_3, .string x1_4, .int .i64 x1_5, .int .i64 x1_6, .slice A1_7 x1_7.length C1_7, .int .i64 x1_8] 62)) w2 from HK2.out)
        refine hK.out _ _ ?_ (fun hHeld => ?_)
        ·
         exact ⟨b_0, b_1, b_2⟩
        clear hK K
        (try simp only [Act.put, List.setIfInBounds_toArray, List.set_cons_zero, List.set_cons_succ, List.getElem_toArray, List.getElem_cons_zero, List.getElem_cons_succ])
        refine tkI 4 ?_
        refine tkN 5 ?_
        refine tkN 6 ?_
        refine tkN 7 ?_
        refine tkN 8 ?_
        refine tkN 9 ?_
        refine tkN 10 ?_
        refine tkN 11 ?_
        refine tkN 12 ?_
        refine tkI 13 ?_
        refine wpAnyH_done (by kernel_rfl) ?_ _
        all_goals (try (go_wp2_with (fail)))
        all_goals go_meet
        all_goals exact ⟨_, rfl, HO2.out, HOB2.out, hbB2, HKP.out⟩
       case false =>
        by_cases hp1 : x1_1 = []
        case pos =>
         have HN1 := hide (show x1_1.length = 0 by rw [hp1]; rfl)
         have HPP1 := hide hp1
         clear hp1
         by_cases hp2 : x1_2 = []
         case pos => as_aux_lemma =>
          have HN2 := hide (show x1_2.length = 0 by rw [hp2]; rfl)
          have HPP2 := hide hp2
          clear hp2
          refine wp_region_held_drew (S := fun w' => w'.cell? ⟨wr.heap.size, 0, none⟩ = some (.string x1_0) ∧ w'.cell? ⟨wr.heap.size, 1, none⟩ = some (.slice A1_1 x1_1.length C1_1) ∧ w'.cell? ⟨wr.heap.size, 2, none⟩ = some (.slice A1_2 x1_2.length C1_2)) (by kernel_rfl) ?_ (fun hHeld => ?_)
          ·
           exact ⟨by simp, by simp, by simp⟩
          refine tkI 0 ?_
          refine tkI 1 ?_
          refine tkI 2 ?_
          refine wpAnyH_ready (rs := [3]) (by kernel_rfl) (by simp) ?_
          refine AllReadyH.cons (o := _) rfl (fun K hK => ?_) AllReadyH.nil
          go_simp
          clear hHeld
          (go_at_call 59; refine (taken_any w _ (w.heap.size + 2) v seen x1_0 HT.out (Bel.trans hbw bl) (OwnS.bel HOL.out bl) ((Below.block (show Bel wr _ from bl) (w.heap.size + 2) hq2).trans HOB.out) (by omega) HX0.out (by omega)).mono ?_; rintro e w2 ⟨v2, rfl, ho2, hob2, hbB2, hk2⟩; rw [HTK.out]; have xb := KeptB.box hk2 (show wr.heap.size ≠ (w.heap.size + 2) by omega) (show (World.drew (wr.alloc (.cells #[.string x1_0, .slice A1_1 x1_1.length C1_1, .slice A1_2 x1_2.length C1_2, .int .i64 x1_3, .string x1_4, .int .i64 x1_5, .int .i64 x1_6, .slice A1_7 x1_7.length C1_7, .int .i64 x1_8] 62))).heap[wr.heap.size]? = some (Obj.cells #[.string x1_0, .slice A1_1 x1_1.length C1_1, .slice A1_2 x1_2.length C1_2, .int .i64 x1_3, .string x1_4, .int .i64 x1_5, .int .i64 x1_6, .slice A1_7 x1_7.length C1_7, .int .i64 x1_8] 62) from heap_alloc_new wr _) (by decide); have b_0 : w2.cell? ⟨wr.heap.size, 0, none⟩ = some (.string x1_0) := (xb 0).trans (by simp); have b_1 : w2.cell? ⟨wr.heap.size, 1, none⟩ = some (.slice A1_1 x1_1.length C1_1) := (xb 1).trans (by simp); have b_2 : w2.cell? ⟨wr.heap.size, 2, none⟩ = some (.slice A1_2 x1_2.length C1_2) := (xb 2).trans (by simp); have b_3 : w2.cell? ⟨wr.heap.size, 3, none⟩ = some (.int .i64 x1_3) := (xb 3).trans (by simp); have b_4 : w2.cell? ⟨wr.heap.size, 4, none⟩ = some (.string x1_4) := (xb 4).trans (by simp); have b_5 : w2.cell? ⟨wr.heap.size, 5, none⟩ = some (.int .i64 x1_5) := (xb 5).trans (by simp); have b_6 : w2.cell? ⟨wr.heap.size, 6, none⟩ = some (.int .i64 x1_6) := (xb 6).trans (by simp); have b_7 : w2.cell? ⟨wr.heap.size, 7, none⟩ = some (.slice A1_7 x1_7.length C1_7) := (xb 7).trans (by simp); have b_8 : w2.cell? ⟨wr.heap.size, 8, none⟩ = some (.int .i64 x1_8) := (xb 8).trans (by simp); have hsz2 := hk2.1; (try simp only [World.size_alloc, World.size_drew] at hsz2); have hlb : wr.heap.size < w2.heap.size := (by omega); have hnb : ¬ wr.heap.size = w2.heap.size := (by omega); have HO2 := hide ho2; have HOB2 := hide hob2; have HK2 := hide hk2; clear ho2 hob2 hk2 xb)
          have hbw2 : Bel w2 w2 := Bel.refl w2
          have HBW := hide hbB2
          have HKP := hide (show KeptB (w.heap.size + 2) (wr.alloc (.cells #[.string x1_0, .slice A1_1 x1_1.length C1_1, .slice A1_2 x1_2.length C1_2, .int .i64 x1_3, .string x1_4, .int .i64 x1_5, .int .i64 x1_6, .slice A1_7 x1_7.length C1_7, .int .i64 x1_8] 62)) w2 from HK2.out)
          refine hK.out _ _ ?_ (fun hHeld => ?_)
          ·
           exact ⟨b_0, b_1, b_2⟩
          clear hK K
          (try simp only [Act.put, List.setIfInBounds_toArray, List.set_cons_zero, List.set_cons_succ, List.getElem_toArray, List.getElem_cons_zero, List.getElem_cons_succ])
          refine tkI 4 ?_
          refine tkI 6 ?_
          refine tkI 7 ?_
          refine tkI 9 ?_
          refine tkI 10 ?_
          refine wpAnyH_ready (rs := [5]) (by kernel_rfl) (by simp) ?_
          refine AllReadyH.cons (o := _) rfl (fun K hK => ?_) AllReadyH.nil
          go_simp
          clear hHeld
          have hbs : Bel w2 _ := (show Bel w2 (w2.alloc (.cells #[] 9)) from bl)
          have ho0 : OwnS w2 (w2.alloc (.cells #[] 9)) (.slice (some ⟨w2.heap.size, 0, none⟩) 0 0) [] := OwnS.bel (show OwnS w2 (w2.alloc (.cells #[] 9)) (.slice (some ⟨w2.heap.size, 0, none⟩) 0 0) [] from ⟨by have h := World.ownsRow_made (base := w2.heap.size) (e := 9) (size := 1) w2 #[] 0 (Nat.le_refl _) (by unfold maxLen; omega) rfl; simpa using h, fun x hx => by cases hx⟩) bl
          refine hK.out _ _ ?_ (fun hHeld => ?_)
          ·
           exact ⟨(Bel.box (W := w2) (by first | exact hbT | exact hbP2 | exact hbP1 | exact bl) wr.heap.size hlb _).trans b_0, (Bel.box (W := w2) (by first | exact hbT | exact hbP2 | exact hbP1 | exact bl) wr.heap.size hlb _).trans b_1, (Bel.box (W := w2) (by first | exact hbT | exact hbP2 | exact hbP1 | exact bl) wr.heap.size hlb _).trans b_2⟩
          clear hK K
          (try simp only [Act.put, List.setIfInBounds_toArray, List.set_cons_zero, List.set_cons_succ, List.getElem_toArray, List.getElem_cons_zero, List.getElem_cons_succ])
          refine wpAnyH_ready (rs := [8]) (by kernel_rfl) (by simp) ?_
          refine AllReadyH.cons (o := _) rfl (fun K hK => ?_) AllReadyH.nil
          rw [if_pos (by rfl)]
          refine wp_append_zero (.tmp 56) (.tmp 58) 23 rfl w2.heap.size 9 i0 1 Tryd.underlying23 hi0 _ _ _ rfl ho0.1 _ _ _ rfl HN1.out ?_
          have ho1 := ho0
          have hbP1 := hbs
          refine hK.out _ _ ?_ (fun hHeld => ?_)
          ·
           exact ⟨(Bel.box (W := w2) (by first | exact hbT | exact hbP2 | exact hbP1 | exact bl) wr.heap.size hlb _).trans b_0, (Bel.box (W := w2) (by first | exact hbT | exact hbP2 | exact hbP1 | exact bl) wr.heap.size hlb _).trans b_1, (Bel.box (W := w2) (by first | exact hbT | exact hbP2 | exact hbP1 | exact bl) wr.heap.size hlb _).trans b_2⟩
          clear hK K
          (try simp only [Act.put, List.setIfInBounds_toArray, List.set_cons_zero, List.set_cons_succ, List.getElem_toArray, List.getElem_cons_zero, List.getElem_cons_succ])
          refine wpAnyH_ready (rs := [11]) (by kernel_rfl) (by simp) ?_
          refine AllReadyH.cons (o := _) rfl (fun K hK => ?_) AllReadyH.nil
          rw [if_pos (by rfl)]
          refine wp_append_zero (.tmp 59) (.tmp 61) 23 rfl w2.heap.size 9 i0 1 Tryd.underlying23 hi0 _ _ _ rfl ho1.1 _ _ _ rfl HN2.out ?_
          have ho2 := ho1
          have hbP2 := hbP1
          refine hK.out _ _ ?_ (fun hHeld => ?_)
          ·
           exact ⟨(Bel.box (W := w2) (by first | exact hbT | exact hbP2 | exact hbP1 | exact bl) wr.heap.size hlb _).trans b_0, (Bel.box (W := w2) (by first | exact hbT | exact hbP2 | exact hbP1 | exact bl) wr.heap.size hlb _).trans b_1, (Bel.box (W := w2) (by first | exact hbT | exact hbP2 | exact hbP1 | exact bl) wr.heap.size hlb _).trans b_2⟩
          clear hK K
          (try simp only [Act.put, List.setIfInBounds_toArray, List.set_cons_zero, List.set_cons_succ, List.getElem_toArray, List.getElem_cons_zero, List.getElem_cons_succ])
          have HXE := hide (show ([] : List ByteArray) = x1_1 ++ x1_2 by simp [HPP1.out, HPP2.out])
          refine wpAnyH_ready (rs := [12]) (by kernel_rfl) (by simp) ?_
          refine AllReadyH.cons (o := _) rfl (fun K hK => ?_) AllReadyH.nil
          go_simp
          clear hHeld
          (go_at_call 61; refine (repeated_own (xs := x1_1 ++ x1_2) (by rw [← HXE.out]; exact ho2)).mono ?_; rintro e w23 ⟨rfl, hbT0⟩; have hbT : Bel w2 w23 := Bel.trans hbP2 hbT0; rw [HTW.out])
          refine hK.out _ _ ?_ (fun hHeld => ?_)
          ·
           exact ⟨(Bel.box (W := w2) (by first | exact hbT | exact hbP2 | exact hbP1 | exact bl) wr.heap.size hlb _).trans b_0, (Bel.box (W := w2) (by first | exact hbT | exact hbP2 | exact hbP1 | exact bl) wr.heap.size hlb _).trans b_1, (Bel.box (W := w2) (by first | exact hbT | exact hbP2 | exact hbP1 | exact bl) wr.heap.size hlb _).trans b_2⟩
          clear hK K
          (try simp only [Act.put, List.setIfInBounds_toArray, List.set_cons_zero, List.set_cons_succ, List.getElem_toArray, List.getElem_cons_zero, List.getElem_cons_succ])
          refine tkI 13 ?_
          refine wpAnyH_done (by kernel_rfl) ?_ _
          all_goals (try (go_wp2_with (fail)))
          all_goals go_meet
          all_goals exact ⟨_, rfl, OwnS.bel HO2.out hbT, (Below.block hbT _ (heap_lt HOB2.out)).trans HOB2.out, Bel.trans hbB2 hbT, KeptB.trans HKP.out (KeptB.ofBel hbT)⟩
         case neg => as_aux_lemma =>
          obtain ⟨ad2, rfl⟩ : ∃ ad, A1_2 = some ad := by obtain ⟨b, oo, h, -⟩ := GR1_2.out.2.2 (by simpa [strsD] using hp2); exact ⟨_, h⟩
          refine wp_region_held_drew (S := fun w' => w'.cell? ⟨wr.heap.size, 0, none⟩ = some (.string x1_0) ∧ w'.cell? ⟨wr.heap.size, 1, none⟩ = some (.slice A1_1 x1_1.length C1_1) ∧ w'.cell? ⟨wr.heap.size, 2, none⟩ = some (.slice (some ad2) x1_2.length C1_2)) (by kernel_rfl) ?_ (fun hHeld => ?_)
          ·
           exact ⟨by simp, by simp, by simp⟩
          refine tkI 0 ?_
          refine tkI 1 ?_
          refine tkI 2 ?_
          refine wpAnyH_ready (rs := [3]) (by kernel_rfl) (by simp) ?_
          refine AllReadyH.cons (o := _) rfl (fun K hK => ?_) AllReadyH.nil
          go_simp
          clear hHeld
          (go_at_call 59; refine (taken_any w _ (w.heap.size + 2) v seen x1_0 HT.out (Bel.trans hbw bl) (OwnS.bel HOL.out bl) ((Below.block (show Bel wr _ from bl) (w.heap.size + 2) hq2).trans HOB.out) (by omega) HX0.out (by omega)).mono ?_; rintro e w2 ⟨v2, rfl, ho2, hob2, hbB2, hk2⟩; rw [HTK.out]; have xb := KeptB.box hk2 (show wr.heap.size ≠ (w.heap.size + 2) by omega) (show (World.drew (wr.alloc (.cells #[.string x1_0, .slice A1_1 x1_1.length C1_1, .slice (some ad2) x1_2.length C1_2, .int .i64 x1_3, .string x1_4, .int .i64 x1_5, .int .i64 x1_6, .slice A1_7 x1_7.length C1_7, .int .i64 x1_8] 62))).heap[wr.heap.size]? = some (Obj.cells #[.string x1_0, .slice A1_1 x1_1.length C1_1, .slice (some ad2) x1_2.length C1_2, .int .i64 x1_3, .string x1_4, .int .i64 x1_5, .int .i64 x1_6, .slice A1_7 x1_7.length C1_7, .int .i64 x1_8] 62) from heap_alloc_new wr _) (by decide); have b_0 : w2.cell? ⟨wr.heap.size, 0, none⟩ = some (.string x1_0) := (xb 0).trans (by simp); have b_1 : w2.cell? ⟨wr.heap.size, 1, none⟩ = some (.slice A1_1 x1_1.length C1_1) := (xb 1).trans (by simp); have b_2 : w2.cell? ⟨wr.heap.size, 2, none⟩ = some (.slice (some ad2) x1_2.length C1_2) := (xb 2).trans (by simp); have b_3 : w2.cell? ⟨wr.heap.size, 3, none⟩ = some (.int .i64 x1_3) := (xb 3).trans (by simp); have b_4 : w2.cell? ⟨wr.heap.size, 4, none⟩ = some (.string x1_4) := (xb 4).trans (by simp); have b_5 : w2.cell? ⟨wr.heap.size, 5, none⟩ = some (.int .i64 x1_5) := (xb 5).trans (by simp); have b_6 : w2.cell? ⟨wr.heap.size, 6, none⟩ = some (.int .i64 x1_6) := (xb 6).trans (by simp); have b_7 : w2.cell? ⟨wr.heap.size, 7, none⟩ = some (.slice A1_7 x1_7.length C1_7) := (xb 7).trans (by simp); have b_8 : w2.cell? ⟨wr.heap.size, 8, none⟩ = some (.int .i64 x1_8) := (xb 8).trans (by simp); have hsz2 := hk2.1; (try simp only [World.size_alloc, World.size_drew] at hsz2); have hlb : wr.heap.size < w2.heap.size := (by omega); have hnb : ¬ wr.heap.size = w2.heap.size := (by omega); have HO2 := hide ho2; have HOB2 := hide hob2; have HK2 := hide hk2; clear ho2 hob2 hk2 xb)
          have hbw2 : Bel w2 w2 := Bel.refl w2
          have HBW := hide hbB2
          have HKP := hide (show KeptB (w.heap.size + 2) (wr.alloc (.cells #[.string x1_0, .slice A1_1 x1_1.length C1_1, .slice (some ad2) x1_2.length C1_2, .int .i64 x1_3, .string x1_4, .int .i64 x1_5, .int .i64 x1_6, .slice A1_7 x1_7.length C1_7, .int .i64 x1_8] 62)) w2 from HK2.out)
          refine hK.out _ _ ?_ (fun hHeld => ?_)
          ·
           exact ⟨b_0, b_1, b_2⟩
          clear hK K
          (try simp only [Act.put, List.setIfInBounds_toArray, List.set_cons_zero, List.set_cons_succ, List.getElem_toArray, List.getElem_cons_zero, List.getElem_cons_succ])
          refine tkI 4 ?_
          refine tkI 6 ?_
          refine tkI 7 ?_
          refine tkI 9 ?_
          refine tkI 10 ?_
          refine wpAnyH_ready (rs := [5]) (by kernel_rfl) (by simp) ?_
          refine AllReadyH.cons (o := _) rfl (fun K hK => ?_) AllReadyH.nil
          go_simp
          clear hHeld
          have hbs : Bel w2 _ := (show Bel w2 (w2.alloc (.cells #[] 9)) from bl)
          have ho0 : OwnS w2 (w2.alloc (.cells #[] 9)) (.slice (some ⟨w2.heap.size, 0, none⟩) 0 0) [] := OwnS.bel (show OwnS w2 (w2.alloc (.cells #[] 9)) (.slice (some ⟨w2.heap.size, 0, none⟩) 0 0) [] from ⟨by have h := World.ownsRow_made (base := w2.heap.size) (e := 9) (size := 1) w2 #[] 0 (Nat.le_refl _) (by unfold maxLen; omega) rfl; simpa using h, fun x hx => by cases hx⟩) bl
          refine hK.out _ _ ?_ (fun hHeld => ?_)
          ·
           exact ⟨(Bel.box (W := w2) (by first | exact hbT | exact hbP2 | exact hbP1 | exact bl) wr.heap.size hlb _).trans b_0, (Bel.box (W := w2) (by first | exact hbT | exact hbP2 | exact hbP1 | exact bl) wr.heap.size hlb _).trans b_1, (Bel.box (W := w2) (by first | exact hbT | exact hbP2 | exact hbP1 | exact bl) wr.heap.size hlb _).trans b_2⟩
          clear hK K
          (try simp only [Act.put, List.setIfInBounds_toArray, List.set_cons_zero, List.set_cons_succ, List.getElem_toArray, List.getElem_cons_zero, List.getElem_cons_succ])
          refine wpAnyH_ready (rs := [8]) (by kernel_rfl) (by simp) ?_
          refine AllReadyH.cons (o := _) rfl (fun K hK => ?_) AllReadyH.nil
          rw [if_pos (by rfl)]
          refine wp_append_zero (.tmp 56) (.tmp 58) 23 rfl w2.heap.size 9 i0 1 Tryd.underlying23 hi0 _ _ _ rfl ho0.1 _ _ _ rfl HN1.out ?_
          have ho1 := ho0
          have hbP1 := hbs
          refine hK.out _ _ ?_ (fun hHeld => ?_)
          ·
           exact ⟨(Bel.box (W := w2) (by first | exact hbT | exact hbP2 | exact hbP1 | exact bl) wr.heap.size hlb _).trans b_0, (Bel.box (W := w2) (by first | exact hbT | exact hbP2 | exact hbP1 | exact bl) wr.heap.size hlb _).trans b_1, (Bel.box (W := w2) (by first | exact hbT | exact hbP2 | exact hbP1 | exact bl) wr.heap.size hlb _).trans b_2⟩
          clear hK K
          (try simp only [Act.put, List.setIfInBounds_toArray, List.set_cons_zero, List.set_cons_succ, List.getElem_toArray, List.getElem_cons_zero, List.getElem_cons_succ])
          refine wpAnyH_ready (rs := [11]) (by kernel_rfl) (by simp) ?_
          refine AllReadyH.cons (o := _) rfl (fun K hK => ?_) AllReadyH.nil
          rw [if_pos (by rfl)]
          refine wp_append_own _ (.tmp 59) (.tmp 61) 23 rfl w2.heap.size 9 i0 (.string ByteArray.empty) 1 16 Tryd.underlying23 hi0 iz0 iz1 iz2 rfl (by decide) _ _ _ rfl ho1.1 ad2 x1_2.length C1_2 (x1_2.map Value.string) rfl (by simp) (row_news (Row.bel (by first | exact Bel.trans HBW.out hbP1 | exact Bel.trans HBW.out hbs) GR1_2.out)) (by intro u hu; obtain ⟨s, -, rfl⟩ := List.mem_map.1 hu; rfl) (by unfold maxLen; (try simp); omega) (by (try simp); omega) (by have h := hbP1.size; omega) ?_
          intro v11 w22 hown11 hgrow11 _
          have hbP2 : Bel w2 w22 := Below.grown hbP1 hgrow11 (by have h := hbP1.size; exact h) (OwnS.base ho1)
          have ho2 : OwnS w2 w22 v11 (([] : List ByteArray) ++ x1_2) := ⟨by simpa using hown11, fun x hx => HSZ.out x (by simp at hx; simp [hx])⟩
          clear hown11 hgrow11
          refine hK.out _ _ ?_ (fun hHeld => ?_)
          ·
           exact ⟨(Bel.box (W := w2) (by first | exact hbT | exact hbP2 | exact hbP1 | exact bl) wr.heap.size hlb _).trans b_0, (Bel.box (W := w2) (by first | exact hbT | exact hbP2 | exact hbP1 | exact bl) wr.heap.size hlb _).trans b_1, (Bel.box (W := w2) (by first | exact hbT | exact hbP2 | exact hbP1 | exact bl) wr.heap.size hlb _).trans b_2⟩
          clear hK K
          (try simp only [Act.put, List.setIfInBounds_toArray, List.set_cons_zero, List.set_cons_succ, List.getElem_toArray, List.getElem_cons_zero, List.getElem_cons_succ])
          have HXE := hide (show ([] : List ByteArray) ++ x1_2 = x1_1 ++ x1_2 by simp [HPP1.out])
          refine wpAnyH_ready (rs := [12]) (by kernel_rfl) (by simp) ?_
          refine AllReadyH.cons (o := _) rfl (fun K hK => ?_) AllReadyH.nil
          go_simp
          clear hHeld
          (go_at_call 61; refine (repeated_own (xs := x1_1 ++ x1_2) (by rw [← HXE.out]; exact ho2)).mono ?_; rintro e w23 ⟨rfl, hbT0⟩; have hbT : Bel w2 w23 := Bel.trans hbP2 hbT0; rw [HTW.out])
          refine hK.out _ _ ?_ (fun hHeld => ?_)
          ·
           exact ⟨(Bel.box (W := w2) (by first | exact hbT | exact hbP2 | exact hbP1 | exact bl) wr.heap.size hlb _).trans b_0, (Bel.box (W := w2) (by first | exact hbT | exact hbP2 | exact hbP1 | exact bl) wr.heap.size hlb _).trans b_1, (Bel.box (W := w2) (by first | exact hbT | exact hbP2 | exact hbP1 | exact bl) wr.heap.size hlb _).trans b_2⟩
          clear hK K
          (try simp only [Act.put, List.setIfInBounds_toArray, List.set_cons_zero, List.set_cons_succ, List.getElem_toArray, List.getElem_cons_zero, List.getElem_cons_succ])
          refine tkI 13 ?_
          refine wpAnyH_done (by kernel_rfl) ?_ _
          all_goals (try (go_wp2_with (fail)))
          all_goals go_meet
          all_goals exact ⟨_, rfl, OwnS.bel HO2.out hbT, (Below.block hbT _ (heap_lt HOB2.out)).trans HOB2.out, Bel.trans hbB2 hbT, KeptB.trans HKP.out (KeptB.ofBel hbT)⟩
        case neg =>
         obtain ⟨ad1, rfl⟩ : ∃ ad, A1_1 = some ad := by obtain ⟨b, oo, h, -⟩ := GR1_1.out.2.2 (by simpa [strsD] using hp1); exact ⟨_, h⟩
         by_cases hp2 : x1_2 = []
         case pos => as_aux_lemma =>
          have HN2 := hide (show x1_2.length = 0 by rw [hp2]; rfl)
          have HPP2 := hide hp2
          clear hp2
          refine wp_region_held_drew (S := fun w' => w'.cell? ⟨wr.heap.size, 0, none⟩ = some (.string x1_0) ∧ w'.cell? ⟨wr.heap.size, 1, none⟩ = some (.slice (some ad1) x1_1.length C1_1) ∧ w'.cell? ⟨wr.heap.size, 2, none⟩ = some (.slice A1_2 x1_2.length C1_2)) (by kernel_rfl) ?_ (fun hHeld => ?_)
          ·
           exact ⟨by simp, by simp, by simp⟩
          refine tkI 0 ?_
          refine tkI 1 ?_
          refine tkI 2 ?_
          refine wpAnyH_ready (rs := [3]) (by kernel_rfl) (by simp) ?_
          refine AllReadyH.cons (o := _) rfl (fun K hK => ?_) AllReadyH.nil
          go_simp
          clear hHeld
          (go_at_call 59; refine (taken_any w _ (w.heap.size + 2) v seen x1_0 HT.out (Bel.trans hbw bl) (OwnS.bel HOL.out bl) ((Below.block (show Bel wr _ from bl) (w.heap.size + 2) hq2).trans HOB.out) (by omega) HX0.out (by omega)).mono ?_; rintro e w2 ⟨v2, rfl, ho2, hob2, hbB2, hk2⟩; rw [HTK.out]; have xb := KeptB.box hk2 (show wr.heap.size ≠ (w.heap.size + 2) by omega) (show (World.drew (wr.alloc (.cells #[.string x1_0, .slice (some ad1) x1_1.length C1_1, .slice A1_2 x1_2.length C1_2, .int .i64 x1_3, .string x1_4, .int .i64 x1_5, .int .i64 x1_6, .slice A1_7 x1_7.length C1_7, .int .i64 x1_8] 62))).heap[wr.heap.size]? = some (Obj.cells #[.string x1_0, .slice (some ad1) x1_1.length C1_1, .slice A1_2 x1_2.length C1_2, .int .i64 x1_3, .string x1_4, .int .i64 x1_5, .int .i64 x1_6, .slice A1_7 x1_7.length C1_7, .int .i64 x1_8] 62) from heap_alloc_new wr _) (by decide); have b_0 : w2.cell? ⟨wr.heap.size, 0, none⟩ = some (.string x1_0) := (xb 0).trans (by simp); have b_1 : w2.cell? ⟨wr.heap.size, 1, none⟩ = some (.slice (some ad1) x1_1.length C1_1) := (xb 1).trans (by simp); have b_2 : w2.cell? ⟨wr.heap.size, 2, none⟩ = some (.slice A1_2 x1_2.length C1_2) := (xb 2).trans (by simp); have b_3 : w2.cell? ⟨wr.heap.size, 3, none⟩ = some (.int .i64 x1_3) := (xb 3).trans (by simp); have b_4 : w2.cell? ⟨wr.heap.size, 4, none⟩ = some (.string x1_4) := (xb 4).trans (by simp); have b_5 : w2.cell? ⟨wr.heap.size, 5, none⟩ = some (.int .i64 x1_5) := (xb 5).trans (by simp); have b_6 : w2.cell? ⟨wr.heap.size, 6, none⟩ = some (.int .i64 x1_6) := (xb 6).trans (by simp); have b_7 : w2.cell? ⟨wr.heap.size, 7, none⟩ = some (.slice A1_7 x1_7.length C1_7) := (xb 7).trans (by simp); have b_8 : w2.cell? ⟨wr.heap.size, 8, none⟩ = some (.int .i64 x1_8) := (xb 8).trans (by simp); have hsz2 := hk2.1; (try simp only [World.size_alloc, World.size_drew] at hsz2); have hlb : wr.heap.size < w2.heap.size := (by omega); have hnb : ¬ wr.heap.size = w2.heap.size := (by omega); have HO2 := hide ho2; have HOB2 := hide hob2; have HK2 := hide hk2; clear ho2 hob2 hk2 xb)
          have hbw2 : Bel w2 w2 := Bel.refl w2
          have HBW := hide hbB2
          have HKP := hide (show KeptB (w.heap.size + 2) (wr.alloc (.cells #[.string x1_0, .slice (some ad1) x1_1.length C1_1, .slice A1_2 x1_2.length C1_2, .int .i64 x1_3, .string x1_4, .int .i64 x1_5, .int .i64 x1_6, .slice A1_7 x1_7.length C1_7, .int .i64 x1_8] 62)) w2 from HK2.out)
          refine hK.out _ _ ?_ (fun hHeld => ?_)
          ·
           exact ⟨b_0, b_1, b_2⟩
          clear hK K
          (try simp only [Act.put, List.setIfInBounds_toArray, List.set_cons_zero, List.set_cons_succ, List.getElem_toArray, List.getElem_cons_zero, List.getElem_cons_succ])
          refine tkI 4 ?_
          refine tkI 6 ?_
          refine tkI 7 ?_
          refine tkI 9 ?_
          refine tkI 10 ?_
          refine wpAnyH_ready (rs := [5]) (by kernel_rfl) (by simp) ?_
          refine AllReadyH.cons (o := _) rfl (fun K hK => ?_) AllReadyH.nil
          go_simp
          clear hHeld
          have hbs : Bel w2 _ := (show Bel w2 (w2.alloc (.cells #[] 9)) from bl)
          have ho0 : OwnS w2 (w2.alloc (.cells #[] 9)) (.slice (some ⟨w2.heap.size, 0, none⟩) 0 0) [] := OwnS.bel (show OwnS w2 (w2.alloc (.cells #[] 9)) (.slice (some ⟨w2.heap.size, 0, none⟩) 0 0) [] from ⟨by have h := World.ownsRow_made (base := w2.heap.size) (e := 9) (size := 1) w2 #[] 0 (Nat.le_refl _) (by unfold maxLen; omega) rfl; simpa using h, fun x hx => by cases hx⟩) bl
          refine hK.out _ _ ?_ (fun hHeld => ?_)
          ·
           exact ⟨(Bel.box (W := w2) (by first | exact hbT | exact hbP2 | exact hbP1 | exact bl) wr.heap.size hlb _).trans b_0, (Bel.box (W := w2) (by first | exact hbT | exact hbP2 | exact hbP1 | exact bl) wr.heap.size hlb _).trans b_1, (Bel.box (W := w2) (by first | exact hbT | exact hbP2 | exact hbP1 | exact bl) wr.heap.size hlb _).trans b_2⟩
          clear hK K
          (try simp only [Act.put, List.setIfInBounds_toArray, List.set_cons_zero, List.set_cons_succ, List.getElem_toArray, List.getElem_cons_zero, List.getElem_cons_succ])
          refine wpAnyH_ready (rs := [8]) (by kernel_rfl) (by simp) ?_
          refine AllReadyH.cons (o := _) rfl (fun K hK => ?_) AllReadyH.nil
          rw [if_pos (by rfl)]
          refine wp_append_own _ (.tmp 56) (.tmp 58) 23 rfl w2.heap.size 9 i0 (.string ByteArray.empty) 1 16 Tryd.underlying23 hi0 iz0 iz1 iz2 rfl (by decide) _ _ _ rfl ho0.1 ad1 x1_1.length C1_1 (x1_1.map Value.string) rfl (by simp) (row_news (Row.bel (by first | exact Bel.trans HBW.out hbP1 | exact Bel.trans HBW.out hbs) GR1_1.out)) (by intro u hu; obtain ⟨s, -, rfl⟩ := List.mem_map.1 hu; rfl) (by unfold maxLen; (try simp); omega) (by (try simp); omega) (by have h := hbs.size; omega) ?_
          intro v8 w21 hown8 hgrow8 _
          have hbP1 : Bel w2 w21 := Below.grown hbs hgrow8 (by have h := hbs.size; exact h) (OwnS.base ho0)
          have ho1 : OwnS w2 w21 v8 x1_1 := ⟨by simpa using hown8, fun x hx => HSZ.out x (by simp [hx])⟩
          clear hown8 hgrow8
          refine hK.out _ _ ?_ (fun hHeld => ?_)
          ·
           exact ⟨(Bel.box (W := w2) (by first | exact hbT | exact hbP2 | exact hbP1 | exact bl) wr.heap.size hlb _).trans b_0, (Bel.box (W := w2) (by first | exact hbT | exact hbP2 | exact hbP1 | exact bl) wr.heap.size hlb _).trans b_1, (Bel.box (W := w2) (by first | exact hbT | exact hbP2 | exact hbP1 | exact bl) wr.heap.size hlb _).trans b_2⟩
          clear hK K
          (try simp only [Act.put, List.setIfInBounds_toArray, List.set_cons_zero, List.set_cons_succ, List.getElem_toArray, List.getElem_cons_zero, List.getElem_cons_succ])
          refine wpAnyH_ready (rs := [11]) (by kernel_rfl) (by simp) ?_
          refine AllReadyH.cons (o := _) rfl (fun K hK => ?_) AllReadyH.nil
          rw [if_pos (by rfl)]
          refine wp_append_zero (.tmp 59) (.tmp 61) 23 rfl w2.heap.size 9 i0 1 Tryd.underlying23 hi0 _ _ _ rfl ho1.1 _ _ _ rfl HN2.out ?_
          have ho2 := ho1
          have hbP2 := hbP1
          refine hK.out _ _ ?_ (fun hHeld => ?_)
          ·
           exact ⟨(Bel.box (W := w2) (by first | exact hbT | exact hbP2 | exact hbP1 | exact bl) wr.heap.size hlb _).trans b_0, (Bel.box (W := w2) (by first | exact hbT | exact hbP2 | exact hbP1 | exact bl) wr.heap.size hlb _).trans b_1, (Bel.box (W := w2) (by first | exact hbT | exact hbP2 | exact hbP1 | exact bl) wr.heap.size hlb _).trans b_2⟩
          clear hK K
          (try simp only [Act.put, List.setIfInBounds_toArray, List.set_cons_zero, List.set_cons_succ, List.getElem_toArray, List.getElem_cons_zero, List.getElem_cons_succ])
          have HXE := hide (show x1_1 = x1_1 ++ x1_2 by simp [HPP2.out])
          refine wpAnyH_ready (rs := [12]) (by kernel_rfl) (by simp) ?_
          refine AllReadyH.cons (o := _) rfl (fun K hK => ?_) AllReadyH.nil
          go_simp
          clear hHeld
          (go_at_call 61; refine (repeated_own (xs := x1_1 ++ x1_2) (by rw [← HXE.out]; exact ho2)).mono ?_; rintro e w23 ⟨rfl, hbT0⟩; have hbT : Bel w2 w23 := Bel.trans hbP2 hbT0; rw [HTW.out])
          refine hK.out _ _ ?_ (fun hHeld => ?_)
          ·
           exact ⟨(Bel.box (W := w2) (by first | exact hbT | exact hbP2 | exact hbP1 | exact bl) wr.heap.size hlb _).trans b_0, (Bel.box (W := w2) (by first | exact hbT | exact hbP2 | exact hbP1 | exact bl) wr.heap.size hlb _).trans b_1, (Bel.box (W := w2) (by first | exact hbT | exact hbP2 | exact hbP1 | exact bl) wr.heap.size hlb _).trans b_2⟩
          clear hK K
          (try simp only [Act.put, List.setIfInBounds_toArray, List.set_cons_zero, List.set_cons_succ, List.getElem_toArray, List.getElem_cons_zero, List.getElem_cons_succ])
          refine tkI 13 ?_
          refine wpAnyH_done (by kernel_rfl) ?_ _
          all_goals (try (go_wp2_with (fail)))
          all_goals go_meet
          all_goals exact ⟨_, rfl, OwnS.bel HO2.out hbT, (Below.block hbT _ (heap_lt HOB2.out)).trans HOB2.out, Bel.trans hbB2 hbT, KeptB.trans HKP.out (KeptB.ofBel hbT)⟩
         case neg => as_aux_lemma =>
          obtain ⟨ad2, rfl⟩ : ∃ ad, A1_2 = some ad := by obtain ⟨b, oo, h, -⟩ := GR1_2.out.2.2 (by simpa [strsD] using hp2); exact ⟨_, h⟩
          refine wp_region_held_drew (S := fun w' => w'.cell? ⟨wr.heap.size, 0, none⟩ = some (.string x1_0) ∧ w'.cell? ⟨wr.heap.size, 1, none⟩ = some (.slice (some ad1) x1_1.length C1_1) ∧ w'.cell? ⟨wr.heap.size, 2, none⟩ = some (.slice (some ad2) x1_2.length C1_2)) (by kernel_rfl) ?_ (fun hHeld => ?_)
          ·
           exact ⟨by simp, by simp, by simp⟩
          refine tkI 0 ?_
          refine tkI 1 ?_
          refine tkI 2 ?_
          refine wpAnyH_ready (rs := [3]) (by kernel_rfl) (by simp) ?_
          refine AllReadyH.cons (o := _) rfl (fun K hK => ?_) AllReadyH.nil
          go_simp
          clear hHeld
          (go_at_call 59; refine (taken_any w _ (w.heap.size + 2) v seen x1_0 HT.out (Bel.trans hbw bl) (OwnS.bel HOL.out bl) ((Below.block (show Bel wr _ from bl) (w.heap.size + 2) hq2).trans HOB.out) (by omega) HX0.out (by omega)).mono ?_; rintro e w2 ⟨v2, rfl, ho2, hob2, hbB2, hk2⟩; rw [HTK.out]; have xb := KeptB.box hk2 (show wr.heap.size ≠ (w.heap.size + 2) by omega) (show (World.drew (wr.alloc (.cells #[.string x1_0, .slice (some ad1) x1_1.length C1_1, .slice (some ad2) x1_2.length C1_2, .int .i64 x1_3, .string x1_4, .int .i64 x1_5, .int .i64 x1_6, .slice A1_7 x1_7.length C1_7, .int .i64 x1_8] 62))).heap[wr.heap.size]? = some (Obj.cells #[.string x1_0, .slice (some ad1) x1_1.length C1_1, .slice (some ad2) x1_2.length C1_2, .int .i64 x1_3, .string x1_4, .int .i64 x1_5, .int .i64 x1_6, .slice A1_7 x1_7.length C1_7, .int .i64 x1_8] 62) from heap_alloc_new wr _) (by decide); have b_0 : w2.cell? ⟨wr.heap.size, 0, none⟩ = some (.string x1_0) := (xb 0).trans (by simp); have b_1 : w2.cell? ⟨wr.heap.size, 1, none⟩ = some (.slice (some ad1) x1_1.length C1_1) := (xb 1).trans (by simp); have b_2 : w2.cell? ⟨wr.heap.size, 2, none⟩ = some (.slice (some ad2) x1_2.length C1_2) := (xb 2).trans (by simp); have b_3 : w2.cell? ⟨wr.heap.size, 3, none⟩ = some (.int .i64 x1_3) := (xb 3).trans (by simp); have b_4 : w2.cell? ⟨wr.heap.size, 4, none⟩ = some (.string x1_4) := (xb 4).trans (by simp); have b_5 : w2.cell? ⟨wr.heap.size, 5, none⟩ = some (.int .i64 x1_5) := (xb 5).trans (by simp); have b_6 : w2.cell? ⟨wr.heap.size, 6, none⟩ = some (.int .i64 x1_6) := (xb 6).trans (by simp); have b_7 : w2.cell? ⟨wr.heap.size, 7, none⟩ = some (.slice A1_7 x1_7.length C1_7) := (xb 7).trans (by simp); have b_8 : w2.cell? ⟨wr.heap.size, 8, none⟩ = some (.int .i64 x1_8) := (xb 8).trans (by simp); have hsz2 := hk2.1; (try simp only [World.size_alloc, World.size_drew] at hsz2); have hlb : wr.heap.size < w2.heap.size := (by omega); have hnb : ¬ wr.heap.size = w2.heap.size := (by omega); have HO2 := hide ho2; have HOB2 := hide hob2; have HK2 := hide hk2; clear ho2 hob2 hk2 xb)
          have hbw2 : Bel w2 w2 := Bel.refl w2
          have HBW := hide hbB2
          have HKP := hide (show KeptB (w.heap.size + 2) (wr.alloc (.cells #[.string x1_0, .slice (some ad1) x1_1.length C1_1, .slice (some ad2) x1_2.length C1_2, .int .i64 x1_3, .string x1_4, .int .i64 x1_5, .int .i64 x1_6, .slice A1_7 x1_7.length C1_7, .int .i64 x1_8] 62)) w2 from HK2.out)
          refine hK.out _ _ ?_ (fun hHeld => ?_)
          ·
           exact ⟨b_0, b_1, b_2⟩
          clear hK K
          (try simp only [Act.put, List.setIfInBounds_toArray, List.set_cons_zero, List.set_cons_succ, List.getElem_toArray, List.getElem_cons_zero, List.getElem_cons_succ])
          refine tkI 4 ?_
          refine tkI 6 ?_
          refine tkI 7 ?_
          refine tkI 9 ?_
          refine tkI 10 ?_
          refine wpAnyH_ready (rs := [5]) (by kernel_rfl) (by simp) ?_
          refine AllReadyH.cons (o := _) rfl (fun K hK => ?_) AllReadyH.nil
          go_simp
          clear hHeld
          have hbs : Bel w2 _ := (show Bel w2 (w2.alloc (.cells #[] 9)) from bl)
          have ho0 : OwnS w2 (w2.alloc (.cells #[] 9)) (.slice (some ⟨w2.heap.size, 0, none⟩) 0 0) [] := OwnS.bel (show OwnS w2 (w2.alloc (.cells #[] 9)) (.slice (some ⟨w2.heap.size, 0, none⟩) 0 0) [] from ⟨by have h := World.ownsRow_made (base := w2.heap.size) (e := 9) (size := 1) w2 #[] 0 (Nat.le_refl _) (by unfold maxLen; omega) rfl; simpa using h, fun x hx => by cases hx⟩) bl
          refine hK.out _ _ ?_ (fun hHeld => ?_)
          ·
           exact ⟨(Bel.box (W := w2) (by first | exact hbT | exact hbP2 | exact hbP1 | exact bl) wr.heap.size hlb _).trans b_0, (Bel.box (W := w2) (by first | exact hbT | exact hbP2 | exact hbP1 | exact bl) wr.heap.size hlb _).trans b_1, (Bel.box (W := w2) (by first | exact hbT | exact hbP2 | exact hbP1 | exact bl) wr.heap.size hlb _).trans b_2⟩
          clear hK K
          (try simp only [Act.put, List.setIfInBounds_toArray, List.set_cons_zero, List.set_cons_succ, List.getElem_toArray, List.getElem_cons_zero, List.getElem_cons_succ])
          refine wpAnyH_ready (rs := [8]) (by kernel_rfl) (by simp) ?_
          refine AllReadyH.cons (o := _) rfl (fun K hK => ?_) AllReadyH.nil
          rw [if_pos (by rfl)]
          refine wp_append_own _ (.tmp 56) (.tmp 58) 23 rfl w2.heap.size 9 i0 (.string ByteArray.empty) 1 16 Tryd.underlying23 hi0 iz0 iz1 iz2 rfl (by decide) _ _ _ rfl ho0.1 ad1 x1_1.length C1_1 (x1_1.map Value.string) rfl (by simp) (row_news (Row.bel (by first | exact Bel.trans HBW.out hbP1 | exact Bel.trans HBW.out hbs) GR1_1.out)) (by intro u hu; obtain ⟨s, -, rfl⟩ := List.mem_map.1 hu; rfl) (by unfold maxLen; (try simp); omega) (by (try simp); omega) (by have h := hbs.size; omega) ?_
          intro v8 w21 hown8 hgrow8 _
          have hbP1 : Bel w2 w21 := Below.grown hbs hgrow8 (by have h := hbs.size; exact h) (OwnS.base ho0)
          have ho1 : OwnS w2 w21 v8 x1_1 := ⟨by simpa using hown8, fun x hx => HSZ.out x (by simp [hx])⟩
          clear hown8 hgrow8
          refine hK.out _ _ ?_ (fun hHeld => ?_)
          ·
           exact ⟨(Bel.box (W := w2) (by first | exact hbT | exact hbP2 | exact hbP1 | exact bl) wr.heap.size hlb _).trans b_0, (Bel.box (W := w2) (by first | exact hbT | exact hbP2 | exact hbP1 | exact bl) wr.heap.size hlb _).trans b_1, (Bel.box (W := w2) (by first | exact hbT | exact hbP2 | exact hbP1 | exact bl) wr.heap.size hlb _).trans b_2⟩
          clear hK K
          (try simp only [Act.put, List.setIfInBounds_toArray, List.set_cons_zero, List.set_cons_succ, List.getElem_toArray, List.getElem_cons_zero, List.getElem_cons_succ])
          refine wpAnyH_ready (rs := [11]) (by kernel_rfl) (by simp) ?_
          refine AllReadyH.cons (o := _) rfl (fun K hK => ?_) AllReadyH.nil
          rw [if_pos (by rfl)]
          refine wp_append_own _ (.tmp 59) (.tmp 61) 23 rfl w2.heap.size 9 i0 (.string ByteArray.empty) 1 16 Tryd.underlying23 hi0 iz0 iz1 iz2 rfl (by decide) _ _ _ rfl ho1.1 ad2 x1_2.length C1_2 (x1_2.map Value.string) rfl (by simp) (row_news (Row.bel (by first | exact Bel.trans HBW.out hbP1 | exact Bel.trans HBW.out hbs) GR1_2.out)) (by intro u hu; obtain ⟨s, -, rfl⟩ := List.mem_map.1 hu; rfl) (by unfold maxLen; (try simp); omega) (by (try simp); omega) (by have h := hbP1.size; omega) ?_
          intro v11 w22 hown11 hgrow11 _
          have hbP2 : Bel w2 w22 := Below.grown hbP1 hgrow11 (by have h := hbP1.size; exact h) (OwnS.base ho1)
          have ho2 : OwnS w2 w22 v11 (x1_1 ++ x1_2) := ⟨by simpa using hown11, fun x hx => HSZ.out x (by simpa using hx)⟩
          clear hown11 hgrow11
          refine hK.out _ _ ?_ (fun hHeld => ?_)
          ·
           exact ⟨(Bel.box (W := w2) (by first | exact hbT | exact hbP2 | exact hbP1 | exact bl) wr.heap.size hlb _).trans b_0, (Bel.box (W := w2) (by first | exact hbT | exact hbP2 | exact hbP1 | exact bl) wr.heap.size hlb _).trans b_1, (Bel.box (W := w2) (by first | exact hbT | exact hbP2 | exact hbP1 | exact bl) wr.heap.size hlb _).trans b_2⟩
          clear hK K
          (try simp only [Act.put, List.setIfInBounds_toArray, List.set_cons_zero, List.set_cons_succ, List.getElem_toArray, List.getElem_cons_zero, List.getElem_cons_succ])
          have HXE := hide (show x1_1 ++ x1_2 = x1_1 ++ x1_2 by rfl)
          refine wpAnyH_ready (rs := [12]) (by kernel_rfl) (by simp) ?_
          refine AllReadyH.cons (o := _) rfl (fun K hK => ?_) AllReadyH.nil
          go_simp
          clear hHeld
          (go_at_call 61; refine (repeated_own (xs := x1_1 ++ x1_2) (by rw [← HXE.out]; exact ho2)).mono ?_; rintro e w23 ⟨rfl, hbT0⟩; have hbT : Bel w2 w23 := Bel.trans hbP2 hbT0; rw [HTW.out])
          refine hK.out _ _ ?_ (fun hHeld => ?_)
          ·
           exact ⟨(Bel.box (W := w2) (by first | exact hbT | exact hbP2 | exact hbP1 | exact bl) wr.heap.size hlb _).trans b_0, (Bel.box (W := w2) (by first | exact hbT | exact hbP2 | exact hbP1 | exact bl) wr.heap.size hlb _).trans b_1, (Bel.box (W := w2) (by first | exact hbT | exact hbP2 | exact hbP1 | exact bl) wr.heap.size hlb _).trans b_2⟩
          clear hK K
          (try simp only [Act.put, List.setIfInBounds_toArray, List.set_cons_zero, List.set_cons_succ, List.getElem_toArray, List.getElem_cons_zero, List.getElem_cons_succ])
          refine tkI 13 ?_
          refine wpAnyH_done (by kernel_rfl) ?_ _
          all_goals (try (go_wp2_with (fail)))
          all_goals go_meet
          all_goals exact ⟨_, rfl, OwnS.bel HO2.out hbT, (Below.block hbT _ (heap_lt HOB2.out)).trans HOB2.out, Bel.trans hbB2 hbT, KeptB.trans HKP.out (KeptB.ofBel hbT)⟩
      case rest =>
      obtain ⟨v2, hv64, ho2, hob2, hbB2, hk2⟩ := hcut
      subst hv64
      have xb := KeptB.box hk2 (show wr.heap.size ≠ (w.heap.size + 2) by omega) (heap_alloc_new wr _) (by decide)
      have b_4 : wc.cell? ⟨wr.heap.size, 8, none⟩ = some (.int .i64 x1_8) := (xb 8).trans (by simp)
      have hsz2 := hk2.1
      simp only [World.size_alloc] at hsz2
      have hlb : wr.heap.size < wc.heap.size := by omega
      have HO2 := hide ho2
      have HOB2 := hide hob2
      have HK2 := hide hk2
      clear ho2 hob2 hk2 xb
      obtain ⟨bq, hbq⟩ : ∃ bq, (bt || bw) = bq := ⟨_, rfl⟩
      rw [hbq] at HNX ⊢
      clear hbq
      cases bq
      case true =>
       have RR := hide (show nmR G P [] R = (2, x1_8) by rw [HNX.out]; rfl)
       go_wp2_with (fail)
       all_goals (try (go_quiet (fail)))
       all_goals (try (go_wp2_with (fail)))
       all_goals
        go_returns
        exact ⟨ret_pair RR.out, bl⟩
      case false =>
       go_wp2_with (fail)
       all_goals go_roundw
       case rel => exact ⟨m + 1, seen ++ [x1_0], v2, by go_num, by omega, hide HNX.out, by simp; omega, OwnS.bel HO2.out bl, (Below.block (show Bel wc _ from bl) _ (heap_lt HOB2.out)).trans HOB2.out, Bel.trans hbB2 bl, KeptB.trans HKW.out (KeptB.trans (KeptB.ofBel (show Bel wr (wr.alloc (.cells #[.string x1_0, .slice A1_1 x1_1.length C1_1, .slice A1_2 x1_2.length C1_2, .int .i64 x1_3, .string x1_4, .int .i64 x1_5, .int .i64 x1_6, .slice A1_7 x1_7.length C1_7, .int .i64 x1_8] 62)) from bl)) (KeptB.trans HK2.out (KeptB.ofBel bl)))⟩
       case measure => simp [intOf]; omega
    case pos =>
    have hd : decide ((m : Int) < (G.length : Int)) = true := by simp; omega
    have hdn : decide (m < G.length) = true := by simp; omega
    obtain ⟨bG, oG, rfl, -, hbG⟩ := Row.addr HR1.out (by simpa using Nat.lt_of_le_of_lt (Nat.zero_le m) h1)
    have hcG := Row.strs HR1.out m h1
    rw [getD_lt2 G m h1] at hcG
    replace hcG := (hbw.box bG hbG _).trans hcG
    have hlG : bG < wr.heap.size := by omega
    have hnG : ¬ bG = wr.heap.size := by omega
    have HGS := hide (HNO.out.2.2.2 G[m] (List.getElem_mem h1))
    have HIN := hide (hinv.out.trans (nmG_at h1))
    clear hinv
    obtain ⟨gx, hgx⟩ : ∃ gx, G[m] = gx := ⟨_, rfl⟩
    rw [hgx] at hcG HGS HIN
    clear hgx
    obtain ⟨bt, hbt⟩ : ∃ bt, takB seen gx = bt := ⟨_, rfl⟩
    have HTK := hide hbt
    clear hbt
    have HNX := hide (show nmR G P [] R = if bt then (2, 0) else nmG P (seen ++ [gx]) (G.drop (m + 1)) by rw [HIN.out, HTK.out])
    cases bt
    case true =>
     have RR := hide (show nmR G P [] R = (2, 0) by rw [HNX.out]; rfl)
     go_wp2_with (go_at_call 59; refine (taken_any w _ (w.heap.size + 2) v seen gx HT.out (Bel.trans hbw bl) (OwnS.bel HOL.out bl) ((Below.block (show Bel wr _ from bl) (w.heap.size + 2) hq2).trans HOB.out) (by omega) HGS.out (by omega)).mono ?_; rintro e w2 ⟨v2, rfl, ho2, hob2, hbB2, hk2⟩; rw [HTK.out]; have HO2 := hide ho2; have HOB2 := hide hob2; have HK2 := hide hk2; clear ho2 hob2 hk2)
     all_goals (try (go_quiet (fail)))
     all_goals (try (go_wp2_with (fail)))
     all_goals
      go_returns
      exact ⟨ret_pair RR.out, bl⟩
    case false =>
     go_wp2_with (go_at_call 59; refine (taken_any w _ (w.heap.size + 2) v seen gx HT.out (Bel.trans hbw bl) (OwnS.bel HOL.out bl) ((Below.block (show Bel wr _ from bl) (w.heap.size + 2) hq2).trans HOB.out) (by omega) HGS.out (by omega)).mono ?_; rintro e w2 ⟨v2, rfl, ho2, hob2, hbB2, hk2⟩; rw [HTK.out]; have HO2 := hide ho2; have HOB2 := hide hob2; have HK2 := hide hk2; clear ho2 hob2 hk2)
     all_goals go_roundw
     case rel => exact ⟨m + 1, seen ++ [gx], v2, by go_num, by omega, hide HNX.out, by simp; omega, OwnS.bel HO2.out bl, (Below.block (show Bel w2 _ from bl) _ (heap_lt HOB2.out)).trans HOB2.out, Bel.trans hbB2 bl, KeptB.trans HKW.out (KeptB.trans HK2.out (KeptB.ofBel bl))⟩
     case measure => simp [intOf]; omega
  case pos =>
  have hd : decide ((m : Int) < (R.length : Int)) = true := by simp; omega
  have hdn : decide (m < R.length) = true := by simp; omega
  (obtain ⟨b1, o1, x1_0, x1_1, x1_2, A1_1, C1_1, hA1, hS1, hl1, hx1, hv1, g1_0, g1_1, g1_2, c1_0, c1_1, c1_2⟩ := TRecordType.at HR0.out m h1; subst hA1; have HV1 := hide (Dat.HoldVals.bel hbw hv1); have hh1 := hbw.box b1 hl1; have hw1 := Nat.lt_of_lt_of_le hl1 (Bel.size hbw); replace c1_0 := (hh1 _).trans c1_0; replace c1_1 := (hh1 _).trans c1_1; replace c1_2 := (hh1 _).trans c1_2; have HX1 := hide hx1; have GR1_1 := hide g1_1; clear hh1 hv1 hx1 hS1 g1_1)
  have hne1 : ¬ b1 = wr.heap.size := by omega
  have HNM := hide (show R[m].name = x1_0 ∧ R[m].fields = x1_1 ∧ R[m].line = x1_2 by rw [HX1.out]; exact ⟨rfl, rfl, rfl⟩)
  have HIN := hide (hinv.out.trans (nmR_at h1))
  clear hinv
  obtain ⟨bt, hbt⟩ : ∃ bt, takB seen x1_0 = bt := ⟨_, rfl⟩
  obtain ⟨bw, hbw2⟩ : ∃ bw, twiceB x1_1 = bw := ⟨_, rfl⟩
  have HTK := hide hbt
  have HTW := hide hbw2
  clear hbt hbw2
  have HNX := hide (show nmR G P [] R = if bt || bw then (2, x1_2) else nmR G P (seen ++ [x1_0]) (R.drop (m + 1)) by rw [HIN.out, HNM.out.1, HNM.out.2.1, HNM.out.2.2, HTK.out, HTW.out])
  cases bt
  case true =>
   have RR := hide (show nmR G P [] R = (2, x1_2) by rw [HNX.out]; rfl)
   go_wp2_with (go_at_call 59; refine (taken_any w _ (w.heap.size + 2) v seen x1_0 HT.out (Bel.trans hbw bl) (OwnS.bel HOL.out bl) ((Below.block (show Bel wr _ from bl) (w.heap.size + 2) hq2).trans HOB.out) (by omega) g1_0 (by omega)).mono ?_; rintro e w2 ⟨v2, rfl, ho2, hob2, hbB2, hk2⟩; rw [HTK.out]; have xb := KeptB.box hk2 (show wr.heap.size ≠ (w.heap.size + 2) by omega) (heap_alloc_new wr _) (by decide); have b_0 : w2.cell? ⟨wr.heap.size, 0, none⟩ = some (.string x1_0) := (xb 0).trans (by simp); have b_1 : w2.cell? ⟨wr.heap.size, 1, none⟩ = some (.slice A1_1 x1_1.length C1_1) := (xb 1).trans (by simp); have b_2 : w2.cell? ⟨wr.heap.size, 2, none⟩ = some (.int .i64 x1_2) := (xb 2).trans (by simp); have hsz2 := hk2.1; (try simp only [World.size_alloc, World.size_drew] at hsz2); have hlb : wr.heap.size < w2.heap.size := (by omega); have hnb : ¬ wr.heap.size = w2.heap.size := (by omega); have HO2 := hide ho2; have HOB2 := hide hob2; have HK2 := hide hk2; clear ho2 hob2 hk2 xb)
   all_goals (try (go_quiet (fail)))
   all_goals (try (go_wp2_with (fail)))
   all_goals
    go_returns
    exact ⟨ret_pair RR.out, bl⟩
  case false =>
   cases bw
   case true =>
    have RR := hide (show nmR G P [] R = (2, x1_2) by rw [HNX.out]; rfl)
    go_wp2_with (first | (go_at_call 59; refine (taken_any w _ (w.heap.size + 2) v seen x1_0 HT.out (Bel.trans hbw bl) (OwnS.bel HOL.out bl) ((Below.block (show Bel wr _ from bl) (w.heap.size + 2) hq2).trans HOB.out) (by omega) g1_0 (by omega)).mono ?_; rintro e w2 ⟨v2, rfl, ho2, hob2, hbB2, hk2⟩; rw [HTK.out]; have xb := KeptB.box hk2 (show wr.heap.size ≠ (w.heap.size + 2) by omega) (heap_alloc_new wr _) (by decide); have b_0 : w2.cell? ⟨wr.heap.size, 0, none⟩ = some (.string x1_0) := (xb 0).trans (by simp); have b_1 : w2.cell? ⟨wr.heap.size, 1, none⟩ = some (.slice A1_1 x1_1.length C1_1) := (xb 1).trans (by simp); have b_2 : w2.cell? ⟨wr.heap.size, 2, none⟩ = some (.int .i64 x1_2) := (xb 2).trans (by simp); have hsz2 := hk2.1; (try simp only [World.size_alloc, World.size_drew] at hsz2); have hlb : wr.heap.size < w2.heap.size := (by omega); have hnb : ¬ wr.heap.size = w2.heap.size := (by omega); have HO2 := hide ho2; have HOB2 := hide hob2; have HK2 := hide hk2; clear ho2 hob2 hk2 xb) | (go_at_call 61; refine (repeated_row x1_1 S _ _ _ (Row.bel hbB2 GR1_1.out)).mono ?_; rintro e w3 ⟨rfl, hb3⟩; rw [HTW.out]; (have hz3 := hb3.sz; obtain ⟨hk3_0, hf3_0, hl3_0, hn3_0⟩ := hb3.lay (wr.heap.size))))
    all_goals (try (go_quiet (fail)))
    all_goals (try (go_wp2_with (fail)))
    all_goals
     go_returns
     exact ⟨ret_pair RR.out, bl⟩
   case false =>
    go_wp2_with (first | (go_at_call 59; refine (taken_any w _ (w.heap.size + 2) v seen x1_0 HT.out (Bel.trans hbw bl) (OwnS.bel HOL.out bl) ((Below.block (show Bel wr _ from bl) (w.heap.size + 2) hq2).trans HOB.out) (by omega) g1_0 (by omega)).mono ?_; rintro e w2 ⟨v2, rfl, ho2, hob2, hbB2, hk2⟩; rw [HTK.out]; have xb := KeptB.box hk2 (show wr.heap.size ≠ (w.heap.size + 2) by omega) (heap_alloc_new wr _) (by decide); have b_0 : w2.cell? ⟨wr.heap.size, 0, none⟩ = some (.string x1_0) := (xb 0).trans (by simp); have b_1 : w2.cell? ⟨wr.heap.size, 1, none⟩ = some (.slice A1_1 x1_1.length C1_1) := (xb 1).trans (by simp); have b_2 : w2.cell? ⟨wr.heap.size, 2, none⟩ = some (.int .i64 x1_2) := (xb 2).trans (by simp); have hsz2 := hk2.1; (try simp only [World.size_alloc, World.size_drew] at hsz2); have hlb : wr.heap.size < w2.heap.size := (by omega); have hnb : ¬ wr.heap.size = w2.heap.size := (by omega); have HO2 := hide ho2; have HOB2 := hide hob2; have HK2 := hide hk2; clear ho2 hob2 hk2 xb) | (go_at_call 61; refine (repeated_row x1_1 S _ _ _ (Row.bel hbB2 GR1_1.out)).mono ?_; rintro e w3 ⟨rfl, hb3⟩; rw [HTW.out]; (have hz3 := hb3.sz; obtain ⟨hk3_0, hf3_0, hl3_0, hn3_0⟩ := hb3.lay (wr.heap.size))))
    all_goals go_roundw
    case rel => exact ⟨m + 1, seen ++ [x1_0], v2, by go_num, by omega, hide HNX.out, by simp; omega, OwnS.bel HO2.out bl, (Below.block (show Bel w2 _ from bl) _ (heap_lt HOB2.out)).trans HOB2.out, Bel.trans hbB2 bl, KeptB.trans HKW.out (KeptB.trans (KeptB.ofBel (show Bel wr (wr.alloc (.cells #[.string x1_0, .slice A1_1 x1_1.length C1_1, .int .i64 x1_2] 56)) from bl)) (KeptB.trans HK2.out (KeptB.ofBel bl)))⟩
    case measure => simp [intOf]; omega
end Go.Proofs.YtjodcciloflgbaaDoor
