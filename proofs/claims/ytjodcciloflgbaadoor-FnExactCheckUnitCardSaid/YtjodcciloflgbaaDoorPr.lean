/- Scripts of walks that stand more than once: each a lemma whose proof is given by default. -/
import Derived.Below
import Derived.BigQuiet
import Derived.ChangeOld
import Derived.Deep.Cut
import Derived.Deep.CutBlock
import Derived.Deep.CutRange
import Derived.Deep.DeepHandedRow
import Derived.Deep.DeepWitnessRowRef
import Derived.Deep.Light
import Derived.Deep.Onto
import Derived.Deep.QuietTactic
import Derived.Deep.RegionHeld3
import Derived.Deep.RegionWith
import Derived.Deep.Slices
import Derived.Handy
import Derived.LaidMore
import Derived.Laws.BitsAllLaws
import Derived.Laws.IdiomCopy
import Derived.Laws.IdiomStrings
import Derived.Laws.MakeOwn
import Derived.Laws.OwnMore
import Derived.Lib.BufferRead
import Derived.Lib.Hide
import Derived.Lib.LaidTab
import Derived.Lib.SmallJoins
import Derived.OneCell
import Derived.OpenShut
import Derived.OwnWalk
import Derived.ProofKit
import Derived.Shelf.LaysM
import Derived.Shelf.Slices.Turned
import Derived.Shelf.Strings.Fields
import Derived.Shelf.Strings.FieldsAny
import Derived.Shelf.Strings.FieldsFuncAny
import Derived.Shelf.Strings.FieldsFuncGrows
import Derived.Shelf.Strings.SplitShaped
import Derived.Shelf.Unicode.ExclAny
import Derived.Shelf.Unicode.Is16Any
import Derived.Shelf.Unicode.Is16White
import Derived.Shelf.Unicode.Is16WhiteD
import Derived.Shelf.Unicode.Is32Any
import Derived.Shelf.Unicode.IsSpaceAny
import Derived.Shelf.Unicode.IsSpaceAnyD
import Derived.Shelf.Unicode.Latin
import Derived.ShutString
import Derived.StillTailTactics
import Derived.Stop.LaidErr
import Derived.WalkKit
import Derived.WalkLawsBesides
import Derived.WalkSpells
namespace Go.Proofs.YtjodcciloflgbaaDoor
theorem rk0 {p : Prop} (h : p := by
  go_enter Tryd.func55, Tryd.ntmps55
  go_wp2_with (first | (go_at_call 31; refine (outside_any R G P t S _ _ (HT.out.on bl) (Dat.HoldVals.bel bl HU.out)).mono ?_; rintro e w1 ⟨rfl, hb1⟩; rw [HOC.out]; (have hz1 := hb1.sz; obtain ⟨hk1_0, hf1_0, hl1_0, hn1_0⟩ := hb1.lay (w.heap.size); obtain ⟨hk1_1, hf1_1, hl1_1, hn1_1⟩ := hb1.lay (w.heap.size + 1))) | (go_at_call 60; refine (contains_row xs t (fun _ => True) _ _ _ (Row.bel bl HRW.out)).mono ?_; rintro e w2 ⟨rfl, rfl⟩; rw [HCT.out]) | (at_builtin; (refine wpList_append_own _ rfl _ _ 23 rfl wB.heap.size 9 i0 (.string ByteArray.empty) 1 16 Tryd.underlying23 hi0 iz0 iz1 iz2 rfl (by decide) _ _ _ rfl ((OwnS.bel HOWN.out bl).1) ⟨w1.heap.size, 0, none⟩ 1 1 [.string t] rfl rfl ?c1 ?c2 ?c3 ?c4 ?c5 ?_)))
  case c1 => exact cell_one_new _ _ _
  case c2 => intro u hu; simp at hu; subst hu; rfl
  case c3 => unfold maxLen; omega
  case c4 => omega
  case c5 => have h1 := hb1.size; have h2 := hbB.size; simp at h1 ⊢; omega
  intro v9 w9 hown9 hgrow9 _
  have hw1 : Bel w _ := (show Bel w (w1.alloc (.cells #[.string t] 9)) from bl)
  have hbB9 : Bel wB w9 := Below.grown (Bel.trans hbB hw1) hgrow9 (by have h1 := hw1.size; have h2 := hbB.size; omega) (OwnS.base HOWN.out)
  have hk9 : Kept w w9 := Kept.trans (Kept.ofBel hw1) (Kept.grown (OwnS.bel HOWN.out hw1) hgrow9)
  have ho9 := OwnS.snoc hown9 HOWN.out.2 HTS.out
  have hsz9 := hgrow9.size
  have hkx : ∀ arr, (((w.alloc (.cells #[.slice UA0 R.length uc0, .slice UA1 G.length uc1, .slice UA2 P.length uc2] 33)).alloc (.cells #[.int .i64 k, .string t, .int .i64 n, .int .i64 li, .slice A 0 c] 60))).heap[w.heap.size + 1]? = some (Obj.cells arr 60) → w9.cell? ⟨w.heap.size + 1, 4, none⟩ = (((w.alloc (.cells #[.slice UA0 R.length uc0, .slice UA1 G.length uc1, .slice UA2 P.length uc2] 33)).alloc (.cells #[.int .i64 k, .string t, .int .i64 n, .int .i64 li, .slice A 0 c] 60))).cell? ⟨w.heap.size + 1, 4, none⟩ := fun arr h => Kept.box (Kept.trans (Kept.ofBel (show Bel (((w.alloc (.cells #[.slice UA0 R.length uc0, .slice UA1 G.length uc1, .slice UA2 P.length uc2] 33)).alloc (.cells #[.int .i64 k, .string t, .int .i64 n, .int .i64 li, .slice A 0 c] 60))) (w1.alloc (.cells #[.string t] 9)) from bl)) (Kept.grown (OwnS.bel HOWN.out hw1) hgrow9)) h (by decide) 4
  have HB1 := hide (show (((w.alloc (.cells #[.slice UA0 R.length uc0, .slice UA1 G.length uc1, .slice UA2 P.length uc2] 33)).alloc (.cells #[.int .i64 k, .string t, .int .i64 n, .int .i64 li, .slice A 0 c] 60))).heap[w.heap.size + 1]? = some (Obj.cells #[.int .i64 k, .string t, .int .i64 n, .int .i64 li, .slice A 0 c] 60) by have h := heap_alloc_new (w.alloc (.cells #[.slice UA0 R.length uc0, .slice UA1 G.length uc1, .slice UA2 P.length uc2] 33)) (.cells #[.int .i64 k, .string t, .int .i64 n, .int .i64 li, .slice A 0 c] 60); simpa using h)
  clear hown9 hgrow9
  have HO9 := hide ho9
  clear ho9
  have hp4 : w9.cell? ⟨w.heap.size + 1, 4, none⟩ = some (.slice A 0 c) := (hkx _ HB1.out).trans (by simp)
  have hl9 : w.heap.size + 1 < w9.heap.size := by have h1 := hb1.size; have h2 := hsz9; simp at h1 h2; omega
  go_wp2_with (fail)
  go_loopw [2, 43] (fun lv iv wr => iv = .int .i64 0 ∧ OwnS wB wr lv (xs ++ [t]) ∧ Bel wB wr ∧ Kept w wr) (fun _ _ _ => 0)
  case atStart => exact ⟨rfl, OwnS.bel HO9.out bl, Bel.trans hbB9 bl, Kept.trans hk9 (Kept.ofBel bl)⟩
  case round => as_aux_lemma =>
   obtain ⟨rfl, hol, hbw, hkw⟩ := hrel
   have HOL := hide hol
   clear hol
   go_wp2_with (fail)
   all_goals
    go_returns
    exact ⟨_, rfl, by rw [HE.out]; exact OwnS.bel HOL.out bl, bl, Kept.trans hkw (Kept.ofBel bl)⟩) : p := h
theorem rk1 {p : Prop} (h : p := by
  go_enter Tryd.func41, Tryd.ntmps41
  go_wp2_with (first | (go_at_call 24; refine (l9Outer_any R G P t S _ _ (HT.out.on bl) (Dat.HoldVals.bel bl HU.out)).mono ?_; rintro e w1 ⟨rfl, hb1⟩; rw [HOC.out]; (have hz1 := hb1.sz; obtain ⟨hk1_0, hf1_0, hl1_0, hn1_0⟩ := hb1.lay (w.heap.size); obtain ⟨hk1_1, hf1_1, hl1_1, hn1_1⟩ := hb1.lay (w.heap.size + 1))) | (go_at_call 23; refine (l9Find_row xs t (fun _ => True) _ _ _ (Row.bel bl HRW.out)).mono ?_; rintro e w2 ⟨rfl, rfl⟩) | (at_builtin; (refine wpList_append_own _ rfl _ _ 23 rfl wB.heap.size 9 i0 (.string ByteArray.empty) 1 16 Tryd.underlying23 hi0 iz0 iz1 iz2 rfl (by decide) _ _ _ rfl ((OwnS.bel HOWN.out bl).1) ⟨w1.heap.size, 0, none⟩ 1 1 [.string t] rfl rfl ?c1 ?c2 ?c3 ?c4 ?c5 ?_)))
  case c1 => exact cell_one_new _ _ _
  case c2 => intro u hu; simp at hu; subst hu; rfl
  case c3 => unfold maxLen; omega
  case c4 => omega
  case c5 => have h1 := hb1.size; have h2 := hbB.size; simp at h1 ⊢; omega
  intro v9 w9 hown9 hgrow9 _
  have hw1 : Bel w _ := (show Bel w (w1.alloc (.cells #[.string t] 9)) from bl)
  have hbB9 : Bel wB w9 := Below.grown (Bel.trans hbB hw1) hgrow9 (by have h1 := hw1.size; have h2 := hbB.size; omega) (OwnS.base HOWN.out)
  have hk9 : Kept w w9 := Kept.trans (Kept.ofBel hw1) (Kept.grown (OwnS.bel HOWN.out hw1) hgrow9)
  have ho9 := OwnS.snoc hown9 HOWN.out.2 HTS.out
  clear hown9 hgrow9
  have HO9 := hide ho9
  clear ho9
  go_wp2_with (fail)
  all_goals
   go_returns
   exact ⟨_, rfl, by rw [HE.out]; exact OwnS.bel HO9.out bl, Bel.trans hbB9 bl, Kept.trans hk9 (Kept.ofBel bl)⟩) : p := h
theorem rk2 {p : Prop} (h : p := by
  go_enter Tryd.func55, Tryd.ntmps55
  go_wp2_with (first | (go_at_call 31; refine (outside_any R G P t S _ _ (HT.out.on bl) (Dat.HoldVals.bel bl HU.out)).mono ?_; rintro e w1 ⟨rfl, hb1⟩; rw [HOC.out]; (have hz1 := hb1.sz; obtain ⟨hk1_0, hf1_0, hl1_0, hn1_0⟩ := hb1.lay (w.heap.size); obtain ⟨hk1_1, hf1_1, hl1_1, hn1_1⟩ := hb1.lay (w.heap.size + 1))) | (go_at_call 60; refine (contains_row xs t (fun _ => True) _ _ _ (Row.bel bl HRW.out)).mono ?_; rintro e w2 ⟨rfl, rfl⟩; rw [HCT.out]))
  go_loopw [2, 43] (fun lv iv wr => iv = .int .i64 0 ∧ OwnS wB wr lv xs ∧ Bel wB wr ∧ Kept w wr) (fun _ _ _ => 0)
  case atStart => exact ⟨rfl, OwnS.bel HOWN.out bl, bl, Kept.ofBel bl⟩
  case round => as_aux_lemma =>
   obtain ⟨rfl, hol, hbw, hkw⟩ := hrel
   have HOL := hide hol
   clear hol
   go_wp2_with (fail)
   all_goals
    go_returns
    exact ⟨_, rfl, by rw [HE.out]; exact OwnS.bel HOL.out bl, bl, Kept.trans hkw (Kept.ofBel bl)⟩) : p := h
theorem rk3 {p : Prop} (h : p := by
  go_enter Tryd.func81, Tryd.ntmps81
  go_wp2_with (go_at_call 91; refine (specNewCset_any _ _ HTS.out).mono ?_; rintro e w3 ⟨rfl, hb3⟩; rw [HOK.out]; (have hz3 := hb3.sz; obtain ⟨hk3_0, hf3_0, hl3_0, hn3_0⟩ := hb3.lay (w.heap.size)))
  go_region_held3 (fun w' => w'.cell? ⟨w.heap.size, 1, none⟩ = some (.string t) ∧ w'.cell? ⟨w3.heap.size, 0, none⟩ = some (.int .i64 (nsLo t)) ∧ w'.cell? ⟨w3.heap.size, 1, none⟩ = some (.int .i64 (nsHi t))) (go_keep) (first | (go_at_call 92; refine (specCsetText_any _ _ _).mono ?_; rintro e w4 ⟨rfl, hb4⟩; (have hz4 := hb4.sz; obtain ⟨hk4_0, hf4_0, hl4_0, hn4_0⟩ := hb4.lay (w.heap.size); obtain ⟨hk4_1, hf4_1, hl4_1, hn4_1⟩ := hb4.lay (w3.heap.size))))
  all_goals (go_wp2_with (fail))
  all_goals
   go_returns
   exact ⟨by rw [HX.out, HR.out]; first | done | rfl, bl⟩) : p := h
theorem rk4 {p : Prop} (h : p := by
  have hd : decide ((m : Int) < (ks.length : Int)) = false := by simp; omega
  have RR := hide (show s = (TExpr.mk k t n li ks).cas by rw [hs.out, HE.out, List.take_of_length_le (by omega)])
  clear hs
  go_wp2_with (fail)
  all_goals
   go_returns
   exact ⟨by rw [← RR.out]; rfl, bl⟩) : p := h
theorem rk5 {p : Prop} (h : p := by
  go_enter Tryd.func55, Tryd.ntmps55
  go_wp2_with (go_at_call 31; refine (outside_any R G P t S _ _ (HT.out.on bl) (Dat.HoldVals.bel bl HU.out)).mono ?_; rintro e w1 ⟨rfl, hb1⟩; rw [HOC.out]; (have hz1 := hb1.sz; obtain ⟨hk1_0, hf1_0, hl1_0, hn1_0⟩ := hb1.lay (w.heap.size); obtain ⟨hk1_1, hf1_1, hl1_1, hn1_1⟩ := hb1.lay (w.heap.size + 1)))
  go_loopw [2, 43] (fun lv iv wr => iv = .int .i64 0 ∧ OwnS wB wr lv xs ∧ Bel wB wr ∧ Kept w wr) (fun _ _ _ => 0)
  case atStart => exact ⟨rfl, OwnS.bel HOWN.out bl, bl, Kept.ofBel bl⟩
  case round => as_aux_lemma =>
   obtain ⟨rfl, hol, hbw, hkw⟩ := hrel
   have HOL := hide hol
   clear hol
   go_wp2_with (fail)
   all_goals
    go_returns
    exact ⟨_, rfl, by rw [HE.out]; exact OwnS.bel HOL.out bl, bl, Kept.trans hkw (Kept.ofBel bl)⟩) : p := h
theorem rk6 {p : Prop} (h : p := by
  go_enter Tryd.func9, Tryd.ntmps9
  go_wp2_with (go_at_call 28; refine (HUN.out (TUnit.mk R G P) S _ _ (HT.out.on bl) (Dat.HoldVals.bel bl HU.out) HW.out).mono ?_; rintro e w1 ⟨rfl, hb1⟩; rw [HVAL.out]; (have hz1 := hb1.sz; obtain ⟨hk1_0, hf1_0, hl1_0, hn1_0⟩ := hb1.lay (w.heap.size)))
  all_goals
   go_returns
   exact ⟨by rw [HZ.out]; first | done | rfl, bl⟩) : p := h
theorem rk7 {p : Prop} (h : p := by
  go_enter Tryd.func41, Tryd.ntmps41
  go_wp2_with (first | (go_at_call 24; refine (l9Outer_any R G P t S _ _ (HT.out.on bl) (Dat.HoldVals.bel bl HU.out)).mono ?_; rintro e w1 ⟨rfl, hb1⟩; rw [HOC.out]; (have hz1 := hb1.sz; obtain ⟨hk1_0, hf1_0, hl1_0, hn1_0⟩ := hb1.lay (w.heap.size); obtain ⟨hk1_1, hf1_1, hl1_1, hn1_1⟩ := hb1.lay (w.heap.size + 1))) | (go_at_call 23; refine (l9Find_row xs t (fun _ => True) _ _ _ (Row.bel bl HRW.out)).mono ?_; rintro e w2 ⟨rfl, rfl⟩))
  all_goals
   go_returns
   exact ⟨_, rfl, by rw [HE.out]; exact OwnS.bel HOWN.out bl, bl, Kept.ofBel bl⟩) : p := h
theorem rk8 {p : Prop} (h : p := by
  go_enter Tryd.func81, Tryd.ntmps81
  go_wp2_with (go_at_call 48; refine (specIsName_any _ _).mono ?_; rintro e w1 ⟨rfl, hb1⟩)
  all_goals
   go_returns
   exact ⟨by rw [HX.out]; first | done | rfl | (rw [← hr]; done) | (rw [← hr]; rfl) | simp [← hr], bl⟩) : p := h
theorem rk9 {p : Prop} (h : p := by
  go_enter Tryd.func41, Tryd.ntmps41
  go_wp2_with (go_at_call 24; refine (l9Outer_any R G P t S _ _ (HT.out.on bl) (Dat.HoldVals.bel bl HU.out)).mono ?_; rintro e w1 ⟨rfl, hb1⟩; rw [HOC.out]; (have hz1 := hb1.sz; obtain ⟨hk1_0, hf1_0, hl1_0, hn1_0⟩ := hb1.lay (w.heap.size); obtain ⟨hk1_1, hf1_1, hl1_1, hn1_1⟩ := hb1.lay (w.heap.size + 1)))
  all_goals
   go_returns
   exact ⟨_, rfl, by rw [HE.out]; exact OwnS.bel HOWN.out bl, bl, Kept.ofBel bl⟩) : p := h
theorem rk10 {p : Prop} (h : p := by
  obtain rfl : true = il := by rw [← HIL.out]; unfold inC; rw [if_pos (by omega)]; simpa using hm1
  have em : ((m : Int) == 1) = true := by simp; omega
  go_wp2_with (fail)
  all_goals go_meet
  all_goals exact ⟨rfl, bl⟩) : p := h
end Go.Proofs.YtjodcciloflgbaaDoor
