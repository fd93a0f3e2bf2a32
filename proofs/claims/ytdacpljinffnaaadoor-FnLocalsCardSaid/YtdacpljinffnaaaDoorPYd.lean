/- Names gathered: the program. -/
import Derived.Test.YtdacpljinffnaaaDoorPYc
namespace Go.Proofs.YtdacpljinffnaaaDoor
set_option linter.unusedVariables false
set_option linter.unusedSimpArgs false
set_option maxRecDepth 100000
open Go.RowKit
set_option maxHeartbeats 8000000 in
theorem addNames_mk (k n li : Int) (t : ByteArray) (ks : List TExpr) (IH : ∀ (i : Nat) (hi : i < ks.length), ColC 31 TExpr.vld ks[i]) : ColC 31 TExpr.vld (.mk k t n li ks) := by
 intro R G P S wB w us vs v xs hsp hu hv hbB hown hcnt hvl
 have IH' := hide IH
 have HT := hide hsp
 have HU := hide hu
 have HV := hide hv
 have HVL := hide hvl
 obtain ⟨UA0, uc0, UA1, uc1, UA2, uc2, rfl, -⟩ := TUnit.vals hu
 obtain ⟨A, c, rfl, -, hts, -, -, hR⟩ := TExpr.vals hv
 have HR := hide hR
 have hlc := HR.out.1
 have hcm := HR.out.2.1
 simp only [List.length_map] at hlc
 unfold maxLen at hcm
 have HTS := hide hts
 unfold maxLen at hts
 have HOWN := hide hown
 have HC := hide hcnt
 have hxl : xs.length ≤ 4000000 := by omega
 obtain ⟨i0, hi0, iz0, iz1, iz2⟩ := info_parts infoStr
 clear hsp hu hv hvl hR IH hown hcnt
 by_cases h428 : k = 4 ∨ k = 28
 case pos => as_aux_lemma =>
  obtain rfl := leaf_kids HVL.out h428
  obtain ⟨LA, lc, rfl, hrow⟩ := OwnS.row HOWN.out
  have HRW := hide hrow
  clear hrow
  obtain ⟨oc, hoc⟩ : ∃ oc, (outP R G P t).1 = oc := ⟨_, rfl⟩
  have HOC := hide hoc
  have HO := hide (show outO R G P t = decide (oc = 0) by unfold outO; rw [hoc])
  clear hoc
  have k4 : (k == 4) = true ∨ ((k == 4) = false ∧ (k == 28) = true) := by rcases h428 with rfl | rfl <;> simp
  by_cases ho : oc = 0
  case neg => as_aux_lemma =>
   have fo : (oc == 0) = false := by simp; exact ho
   have HE := hide (show (TExpr.mk k t n li []).col (outO R G P) xs = xs by simp only [TExpr.col, TExpr.cols]; rw [HO.out, decide_eq_false ho, if_neg (by simp)])
   rcases k4 with k4 | ⟨k4, k28⟩
   ·
    go_enter Tryd.func31, Tryd.ntmps31
    go_wp2_with (go_at_call 23; refine (outside_any R G P t S _ _ (HT.out.on bl) (Dat.HoldVals.bel bl HU.out)).mono ?_; rintro e w1 ⟨rfl, hb1⟩; rw [HOC.out]; (have hz1 := hb1.sz; obtain ⟨hk1_0, hf1_0, hl1_0, hn1_0⟩ := hb1.lay (w.heap.size); obtain ⟨hk1_1, hf1_1, hl1_1, hn1_1⟩ := hb1.lay (w.heap.size + 1)))
    go_loopw [2, 43] (fun lv iv wr => iv = .int .i64 0 ∧ OwnS wB wr lv xs ∧ Bel wB wr ∧ Kept w wr) (fun _ _ _ => 0)
    case atStart => exact ⟨rfl, OwnS.bel HOWN.out bl, bl, Kept.ofBel bl⟩
    case round => as_aux_lemma =>
     obtain ⟨rfl, hol, hbw, hkw⟩ := hrel
     have HOL := hide hol
     clear hol
     go_wp2_with (fail)
     all_goals
      go_returns
      exact ⟨_, rfl, by rw [HE.out]; exact OwnS.bel HOL.out bl, bl, Kept.trans hkw (Kept.ofBel bl)⟩
   ·
    go_enter Tryd.func31, Tryd.ntmps31
    go_wp2_with (go_at_call 23; refine (outside_any R G P t S _ _ (HT.out.on bl) (Dat.HoldVals.bel bl HU.out)).mono ?_; rintro e w1 ⟨rfl, hb1⟩; rw [HOC.out]; (have hz1 := hb1.sz; obtain ⟨hk1_0, hf1_0, hl1_0, hn1_0⟩ := hb1.lay (w.heap.size); obtain ⟨hk1_1, hf1_1, hl1_1, hn1_1⟩ := hb1.lay (w.heap.size + 1)))
    go_loopw [2, 43] (fun lv iv wr => iv = .int .i64 0 ∧ OwnS wB wr lv xs ∧ Bel wB wr ∧ Kept w wr) (fun _ _ _ => 0)
    case atStart => exact ⟨rfl, OwnS.bel HOWN.out bl, bl, Kept.ofBel bl⟩
    case round => as_aux_lemma =>
     obtain ⟨rfl, hol, hbw, hkw⟩ := hrel
     have HOL := hide hol
     clear hol
     go_wp2_with (fail)
     all_goals
      go_returns
      exact ⟨_, rfl, by rw [HE.out]; exact OwnS.bel HOL.out bl, bl, Kept.trans hkw (Kept.ofBel bl)⟩
  case pos =>
  have fo : (oc == 0) = true := by simp; exact ho
  cases hct : Lib.containsS xs t
  case true => as_aux_lemma =>
   have HCT := hide hct
   have HE := hide (show (TExpr.mk k t n li []).col (outO R G P) xs = xs by simp only [TExpr.col, TExpr.cols]; rw [hct, if_neg (by simp)])
   rcases k4 with k4 | ⟨k4, k28⟩
   ·
    go_enter Tryd.func31, Tryd.ntmps31
    go_wp2_with (first | (go_at_call 23; refine (outside_any R G P t S _ _ (HT.out.on bl) (Dat.HoldVals.bel bl HU.out)).mono ?_; rintro e w1 ⟨rfl, hb1⟩; rw [HOC.out]; (have hz1 := hb1.sz; obtain ⟨hk1_0, hf1_0, hl1_0, hn1_0⟩ := hb1.lay (w.heap.size); obtain ⟨hk1_1, hf1_1, hl1_1, hn1_1⟩ := hb1.lay (w.heap.size + 1))) | (go_at_call 48; refine (contains_row xs t (fun _ => True) _ _ _ (Row.bel bl HRW.out)).mono ?_; rintro e w2 ⟨rfl, rfl⟩; rw [HCT.out]))
    go_loopw [2, 43] (fun lv iv wr => iv = .int .i64 0 ∧ OwnS wB wr lv xs ∧ Bel wB wr ∧ Kept w wr) (fun _ _ _ => 0)
    case atStart => exact ⟨rfl, OwnS.bel HOWN.out bl, bl, Kept.ofBel bl⟩
    case round => as_aux_lemma =>
     obtain ⟨rfl, hol, hbw, hkw⟩ := hrel
     have HOL := hide hol
     clear hol
     go_wp2_with (fail)
     all_goals
      go_returns
      exact ⟨_, rfl, by rw [HE.out]; exact OwnS.bel HOL.out bl, bl, Kept.trans hkw (Kept.ofBel bl)⟩
   ·
    go_enter Tryd.func31, Tryd.ntmps31
    go_wp2_with (first | (go_at_call 23; refine (outside_any R G P t S _ _ (HT.out.on bl) (Dat.HoldVals.bel bl HU.out)).mono ?_; rintro e w1 ⟨rfl, hb1⟩; rw [HOC.out]; (have hz1 := hb1.sz; obtain ⟨hk1_0, hf1_0, hl1_0, hn1_0⟩ := hb1.lay (w.heap.size); obtain ⟨hk1_1, hf1_1, hl1_1, hn1_1⟩ := hb1.lay (w.heap.size + 1))) | (go_at_call 48; refine (contains_row xs t (fun _ => True) _ _ _ (Row.bel bl HRW.out)).mono ?_; rintro e w2 ⟨rfl, rfl⟩; rw [HCT.out]))
    go_loopw [2, 43] (fun lv iv wr => iv = .int .i64 0 ∧ OwnS wB wr lv xs ∧ Bel wB wr ∧ Kept w wr) (fun _ _ _ => 0)
    case atStart => exact ⟨rfl, OwnS.bel HOWN.out bl, bl, Kept.ofBel bl⟩
    case round => as_aux_lemma =>
     obtain ⟨rfl, hol, hbw, hkw⟩ := hrel
     have HOL := hide hol
     clear hol
     go_wp2_with (fail)
     all_goals
      go_returns
      exact ⟨_, rfl, by rw [HE.out]; exact OwnS.bel HOL.out bl, bl, Kept.trans hkw (Kept.ofBel bl)⟩
  case false =>
  have HCT := hide hct
  have HE := hide (show (TExpr.mk k t n li []).col (outO R G P) xs = xs ++ [t] by simp only [TExpr.col, TExpr.cols]; rw [HO.out, decide_eq_true ho, hct, if_pos ⟨h428, rfl, rfl⟩])
  rcases k4 with k4 | ⟨k4, k28⟩
  ·
   go_enter Tryd.func31, Tryd.ntmps31
   go_wp2_with (first | (go_at_call 23; refine (outside_any R G P t S _ _ (HT.out.on bl) (Dat.HoldVals.bel bl HU.out)).mono ?_; rintro e w1 ⟨rfl, hb1⟩; rw [HOC.out]; (have hz1 := hb1.sz; obtain ⟨hk1_0, hf1_0, hl1_0, hn1_0⟩ := hb1.lay (w.heap.size); obtain ⟨hk1_1, hf1_1, hl1_1, hn1_1⟩ := hb1.lay (w.heap.size + 1))) | (go_at_call 48; refine (contains_row xs t (fun _ => True) _ _ _ (Row.bel bl HRW.out)).mono ?_; rintro e w2 ⟨rfl, rfl⟩; rw [HCT.out]) | (at_builtin; (refine wpList_append_own _ rfl _ _ 25 rfl wB.heap.size 9 i0 (.string ByteArray.empty) 1 16 Tryd.underlying25 hi0 iz0 iz1 iz2 rfl (by decide) _ _ _ rfl ((OwnS.bel HOWN.out bl).1) ⟨w1.heap.size, 0, none⟩ 1 1 [.string t] rfl rfl ?c1 ?c2 ?c3 ?c4 ?c5 ?_)))
   case c1 => exact cell_one_new _ _ _
   case c2 => intro u hu; simp at hu; subst hu; rfl
   case c3 => unfold maxLen; omega
   case c4 => omega
   case c5 => have h1 := hb1.size; have h2 := hbB.size; simp at h1 ⊢; omega
   intro v9 w9 hown9 hgrow9 _
   have hw1 : Bel w _ := (show Bel w (w1.alloc (.cells #[.string t] 9)) from bl)
   have hbB9 : Bel wB w9 := Below.grown (Bel.trans hbB hw1) hgrow9 (by have h1 := hw1.size; have h2 := hbB.size; omega) (OwnS.base HOWN.out)
   have hk9 : Kept w w9 := Kept.trans (Kept.ofBel hw1) (Kept.grown (OwnS.bel HOWN.out hw1) hgrow9)
   have ho9 := OwnS.snoc hown9 HOWN.out.2 HTS.out
   have hsz9 := hgrow9.size
   have hkx : ∀ arr, (((w.alloc (.cells #[.slice UA0 R.length uc0, .slice UA1 G.length uc1, .slice UA2 P.length uc2] 28)).alloc (.cells #[.int .i64 k, .string t, .int .i64 n, .int .i64 li, .slice A 0 c] 42))).heap[w.heap.size + 1]? = some (Obj.cells arr 42) → w9.cell? ⟨w.heap.size + 1, 4, none⟩ = (((w.alloc (.cells #[.slice UA0 R.length uc0, .slice UA1 G.length uc1, .slice UA2 P.length uc2] 28)).alloc (.cells #[.int .i64 k, .string t, .int .i64 n, .int .i64 li, .slice A 0 c] 42))).cell? ⟨w.heap.size + 1, 4, none⟩ := fun arr h => Kept.box (Kept.trans (Kept.ofBel (show Bel (((w.alloc (.cells #[.slice UA0 R.length uc0, .slice UA1 G.length uc1, .slice UA2 P.length uc2] 28)).alloc (.cells #[.int .i64 k, .string t, .int .i64 n, .int .i64 li, .slice A 0 c] 42))) (w1.alloc (.cells #[.string t] 9)) from bl)) (Kept.grown (OwnS.bel HOWN.out hw1) hgrow9)) h (by decide) 4
   have HB1 := hide (show (((w.alloc (.cells #[.slice UA0 R.length uc0, .slice UA1 G.length uc1, .slice UA2 P.length uc2] 28)).alloc (.cells #[.int .i64 k, .string t, .int .i64 n, .int .i64 li, .slice A 0 c] 42))).heap[w.heap.size + 1]? = some (Obj.cells #[.int .i64 k, .string t, .int .i64 n, .int .i64 li, .slice A 0 c] 42) by have h := heap_alloc_new (w.alloc (.cells #[.slice UA0 R.length uc0, .slice UA1 G.length uc1, .slice UA2 P.length uc2] 28)) (.cells #[.int .i64 k, .string t, .int .i64 n, .int .i64 li, .slice A 0 c] 42); simpa using h)
   clear hown9 hgrow9
   have HO9 := hide ho9
   clear ho9
   have hp4 : w9.cell? ⟨w.heap.size + 1, 4, none⟩ = some (.slice A 0 c) := (hkx _ HB1.out).trans (by simp)
   have hl9 : w.heap.size + 1 < w9.heap.size := by have h1 := hb1.size; have h2 := hsz9; simp at h1 h2; omega
   go_wp2_with (fail)
   go_loopw [2, 43] (fun lv iv wr => iv = .int .i64 0 ∧ OwnS wB wr lv (xs ++ [t]) ∧ Bel wB wr ∧ Kept w wr) (fun _ _ _ => 0)
   case atStart => exact ⟨rfl, OwnS.bel HO9.out bl, Bel.trans hbB9 bl, Kept.trans hk9 (Kept.ofBel bl)⟩
   case round => as_aux_lemma =>
    obtain ⟨rfl, hol, hbw, hkw⟩ := hrel
    have HOL := hide hol
    clear hol
    go_wp2_with (fail)
    all_goals
     go_returns
     exact ⟨_, rfl, by rw [HE.out]; exact OwnS.bel HOL.out bl, bl, Kept.trans hkw (Kept.ofBel bl)⟩
  ·
   go_enter Tryd.func31, Tryd.ntmps31
   go_wp2_with (first | (go_at_call 23; refine (outside_any R G P t S _ _ (HT.out.on bl) (Dat.HoldVals.bel bl HU.out)).mono ?_; rintro e w1 ⟨rfl, hb1⟩; rw [HOC.out]; (have hz1 := hb1.sz; obtain ⟨hk1_0, hf1_0, hl1_0, hn1_0⟩ := hb1.lay (w.heap.size); obtain ⟨hk1_1, hf1_1, hl1_1, hn1_1⟩ := hb1.lay (w.heap.size + 1))) | (go_at_call 48; refine (contains_row xs t (fun _ => True) _ _ _ (Row.bel bl HRW.out)).mono ?_; rintro e w2 ⟨rfl, rfl⟩; rw [HCT.out]) | (at_builtin; (refine wpList_append_own _ rfl _ _ 25 rfl wB.heap.size 9 i0 (.string ByteArray.empty) 1 16 Tryd.underlying25 hi0 iz0 iz1 iz2 rfl (by decide) _ _ _ rfl ((OwnS.bel HOWN.out bl).1) ⟨w1.heap.size, 0, none⟩ 1 1 [.string t] rfl rfl ?c1 ?c2 ?c3 ?c4 ?c5 ?_)))
   case c1 => exact cell_one_new _ _ _
   case c2 => intro u hu; simp at hu; subst hu; rfl
   case c3 => unfold maxLen; omega
   case c4 => omega
   case c5 => have h1 := hb1.size; have h2 := hbB.size; simp at h1 ⊢; omega
   intro v9 w9 hown9 hgrow9 _
   have hw1 : Bel w _ := (show Bel w (w1.alloc (.cells #[.string t] 9)) from bl)
   have hbB9 : Bel wB w9 := Below.grown (Bel.trans hbB hw1) hgrow9 (by have h1 := hw1.size; have h2 := hbB.size; omega) (OwnS.base HOWN.out)
   have hk9 : Kept w w9 := Kept.trans (Kept.ofBel hw1) (Kept.grown (OwnS.bel HOWN.out hw1) hgrow9)
   have ho9 := OwnS.snoc hown9 HOWN.out.2 HTS.out
   have hsz9 := hgrow9.size
   have hkx : ∀ arr, (((w.alloc (.cells #[.slice UA0 R.length uc0, .slice UA1 G.length uc1, .slice UA2 P.length uc2] 28)).alloc (.cells #[.int .i64 k, .string t, .int .i64 n, .int .i64 li, .slice A 0 c] 42))).heap[w.heap.size + 1]? = some (Obj.cells arr 42) → w9.cell? ⟨w.heap.size + 1, 4, none⟩ = (((w.alloc (.cells #[.slice UA0 R.length uc0, .slice UA1 G.length uc1, .slice UA2 P.length uc2] 28)).alloc (.cells #[.int .i64 k, .string t, .int .i64 n, .int .i64 li, .slice A 0 c] 42))).cell? ⟨w.heap.size + 1, 4, none⟩ := fun arr h => Kept.box (Kept.trans (Kept.ofBel (show Bel (((w.alloc (.cells #[.slice UA0 R.length uc0, .slice UA1 G.length uc1, .slice UA2 P.length uc2] 28)).alloc (.cells #[.int .i64 k, .string t, .int .i64 n, .int .i64 li, .slice A 0 c] 42))) (w1.alloc (.cells #[.string t] 9)) from bl)) (Kept.grown (OwnS.bel HOWN.out hw1) hgrow9)) h (by decide) 4
   have HB1 := hide (show (((w.alloc (.cells #[.slice UA0 R.length uc0, .slice UA1 G.length uc1, .slice UA2 P.length uc2] 28)).alloc (.cells #[.int .i64 k, .string t, .int .i64 n, .int .i64 li, .slice A 0 c] 42))).heap[w.heap.size + 1]? = some (Obj.cells #[.int .i64 k, .string t, .int .i64 n, .int .i64 li, .slice A 0 c] 42) by have h := heap_alloc_new (w.alloc (.cells #[.slice UA0 R.length uc0, .slice UA1 G.length uc1, .slice UA2 P.length uc2] 28)) (.cells #[.int .i64 k, .string t, .int .i64 n, .int .i64 li, .slice A 0 c] 42); simpa using h)
   clear hown9 hgrow9
   have HO9 := hide ho9
   clear ho9
   have hp4 : w9.cell? ⟨w.heap.size + 1, 4, none⟩ = some (.slice A 0 c) := (hkx _ HB1.out).trans (by simp)
   have hl9 : w.heap.size + 1 < w9.heap.size := by have h1 := hb1.size; have h2 := hsz9; simp at h1 h2; omega
   go_wp2_with (fail)
   go_loopw [2, 43] (fun lv iv wr => iv = .int .i64 0 ∧ OwnS wB wr lv (xs ++ [t]) ∧ Bel wB wr ∧ Kept w wr) (fun _ _ _ => 0)
   case atStart => exact ⟨rfl, OwnS.bel HO9.out bl, Bel.trans hbB9 bl, Kept.trans hk9 (Kept.ofBel bl)⟩
   case round => as_aux_lemma =>
    obtain ⟨rfl, hol, hbw, hkw⟩ := hrel
    have HOL := hide hol
    clear hol
    go_wp2_with (fail)
    all_goals
     go_returns
     exact ⟨_, rfl, by rw [HE.out]; exact OwnS.bel HOL.out bl, bl, Kept.trans hkw (Kept.ofBel bl)⟩
 case neg =>
 have k4 : (k == 4) = false := by rw [beq_eq_false_iff_ne]; exact fun q => h428 (Or.inl q)
 have k28 : (k == 28) = false := by rw [beq_eq_false_iff_ne]; exact fun q => h428 (Or.inr q)
 have HE := hide (show (TExpr.mk k t n li ks).col (outO R G P) xs = TExpr.cols (outO R G P) ks xs by simp only [TExpr.col]; rw [if_neg (fun q => h428 q.1)])
 clear h428
 have HB0 := hide (show ((w.alloc (.cells #[.slice UA0 R.length uc0, .slice UA1 G.length uc1, .slice UA2 P.length uc2] 28)).alloc (.cells #[.int .i64 k, .string t, .int .i64 n, .int .i64 li, .slice A ks.length c] 42)).heap[w.heap.size]? = some (Obj.cells #[.slice UA0 R.length uc0, .slice UA1 G.length uc1, .slice UA2 P.length uc2] 28) by rw [heap_alloc_old _ _ (by simp), heap_alloc_new])
 have HB1 := hide (show ((w.alloc (.cells #[.slice UA0 R.length uc0, .slice UA1 G.length uc1, .slice UA2 P.length uc2] 28)).alloc (.cells #[.int .i64 k, .string t, .int .i64 n, .int .i64 li, .slice A ks.length c] 42)).heap[w.heap.size + 1]? = some (Obj.cells #[.int .i64 k, .string t, .int .i64 n, .int .i64 li, .slice A ks.length c] 42) by have h := heap_alloc_new (w.alloc (.cells #[.slice UA0 R.length uc0, .slice UA1 G.length uc1, .slice UA2 P.length uc2] 28)) (.cells #[.int .i64 k, .string t, .int .i64 n, .int .i64 li, .slice A ks.length c] 42); simpa using h)
 go_enter Tryd.func31, Tryd.ntmps31
 go_wp2_with (fail)
 go_loopw [2, 43] (fun lv iv wr => ∃ m : Nat, iv = .int .i64 m ∧ m ≤ ks.length ∧ OwnS wB wr lv (TExpr.cols (outO R G P) (ks.take m) xs) ∧ Bel wB wr ∧ Kept ((w.alloc (.cells #[.slice UA0 R.length uc0, .slice UA1 G.length uc1, .slice UA2 P.length uc2] 28)).alloc (.cells #[.int .i64 k, .string t, .int .i64 n, .int .i64 li, .slice A ks.length c] 42)) wr) (fun _ iv _ => ks.length - (intOf iv).toNat)
 case atStart => exact ⟨0, rfl, by omega, by simp only [List.take_zero, TExpr.cols]; exact OwnS.bel HOWN.out bl, bl, Kept.refl _⟩
 case round => as_aux_lemma =>
  obtain ⟨m, rfl, hm, hol, hbw, hkw⟩ := hrel
  have hz0 := hkw.1
  simp only [World.size_alloc] at hz0
  have x0 := Kept.box hkw HB0.out (by decide)
  have x1 := Kept.box hkw HB1.out (by decide)
  have hl0 : w.heap.size < wr.heap.size := by omega
  have hl1 : w.heap.size + 1 < wr.heap.size := by omega
  have hq0 : ¬ w.heap.size = wr.heap.size := by omega
  have hq1 : ¬ w.heap.size + 1 = wr.heap.size := by omega
  have p0_0 : wr.cell? ⟨w.heap.size, 0, none⟩ = some (.slice UA0 R.length uc0) := (x0 0).trans (by simp)
  have p0_1 : wr.cell? ⟨w.heap.size, 1, none⟩ = some (.slice UA1 G.length uc1) := (x0 1).trans (by simp)
  have p0_2 : wr.cell? ⟨w.heap.size, 2, none⟩ = some (.slice UA2 P.length uc2) := (x0 2).trans (by simp)
  have p1_4 : wr.cell? ⟨w.heap.size + 1, 4, none⟩ = some (.slice A ks.length c) := (x1 4).trans (by simp)
  have HOL := hide hol
  have HKW := hide hkw
  clear hol x0 x1
  by_cases h1 : m < ks.length
  case neg => as_aux_lemma =>
   have hd : decide ((m : Int) < (ks.length : Int)) = false := by simp; omega
   have hkw2 : Kept w wr := Kept.trans (Kept.ofBel (show Bel w ((w.alloc (.cells #[.slice UA0 R.length uc0, .slice UA1 G.length uc1, .slice UA2 P.length uc2] 28)).alloc (.cells #[.int .i64 k, .string t, .int .i64 n, .int .i64 li, .slice A ks.length c] 42)) from bl)) HKW.out
   have HTK := hide (show ks.take m = ks from List.take_of_length_le (by omega))
   go_wp2_with (fail)
   all_goals
    go_returns
    exact ⟨_, rfl, by rw [HE.out]; have h := HOL.out; rw [HTK.out] at h; exact OwnS.bel h bl, bl, Kept.trans hkw2 (Kept.ofBel bl)⟩
  case pos =>
  have hd : decide ((m : Int) < (ks.length : Int)) = true := by simp; omega
  have HNX := hide (TExpr.cols_take (outO R G P) ks m h1 xs)
  have HVK := hide (vld_kidE HVL.out h1)
  have hcn : (TExpr.cols (outO R G P) (ks.take m) xs).length + ks[m].cnt ≤ 4000000 := by
   have a1 := TExpr.cols_len (outO R G P) (ks.take m) xs
   have a2 := TExpr.cnts_take ks m h1
   have a3 := TExpr.cnts_le ks (m + 1)
   have a4 := HC.out
   simp only [TExpr.cnt] at a4
   omega
  obtain ⟨b1, o1, x1_0, x1_1, x1_2, x1_3, x1_4, A1_4, C1_4, hA1, hS1, hl1B, hx1, hv1, g1_0, g1_1, g1_2, g1_3, g1_4, cB_0, cB_1, cB_2, cB_3, cB_4⟩ := TExpr.at HR.out m h1
  subst hA1
  have HVB := hide hv1
  have HX1 := hide hx1
  have c1_0 := (hbw.box b1 hl1B _).trans cB_0
  have c1_1 := (hbw.box b1 hl1B _).trans cB_1
  have c1_2 := (hbw.box b1 hl1B _).trans cB_2
  have c1_3 := (hbw.box b1 hl1B _).trans cB_3
  have c1_4 := (hbw.box b1 hl1B _).trans cB_4
  have hl1c := hbw.size
  clear hv1 hx1 g1_4
  have hb1w : b1 < wr.heap.size := by omega
  have hne1 : ¬ b1 = wr.heap.size := by omega
  go_wp2_with (go_at_call 31; refine (IH'.out m h1 R G P S wB _ _ _ _ _ HT.out HU.out (show Dat.HoldVals wB S ks[m].D _ from HVB.out) bl (OwnS.bel HOL.out bl) hcn HVK.out).mono ?_; rintro e w3 ⟨v3, rfl, ho3, hbB3, hk3⟩; have hkp := Kept.trans (Kept.ofBel (show Bel wr _ from bl)) hk3)
  have HK3 := hide (Kept.trans HKW.out hkp)
  have HO3 := hide ho3
  go_roundw
  case rel => exact ⟨m + 1, by go_num, by omega, by rw [HNX.out]; exact OwnS.bel HO3.out bl, Bel.trans hbB3 bl, Kept.trans HK3.out (Kept.ofBel bl)⟩
  case measure => simp [intOf]; omega
theorem addNames_any : ∀ t, ColC 31 TExpr.vld t := TExpr.ind fun k t n li ks IH => addNames_mk k n li t ks IH
end Go.Proofs.YtdacpljinffnaaaDoor
