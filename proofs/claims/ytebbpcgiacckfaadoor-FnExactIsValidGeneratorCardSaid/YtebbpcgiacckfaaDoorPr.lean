/- Scripts of walks that stand more than once: each a lemma whose proof is given by default. -/
import Derived.Below
import Derived.BigQuiet
import Derived.ChangeOld
import Derived.Deep.Cut
import Derived.Deep.CutRange
import Derived.Deep.DeepHandedRow
import Derived.Deep.DeepWitnessRowRef
import Derived.Deep.Light
import Derived.Deep.QuietTactic
import Derived.Deep.RegionHeld3
import Derived.Deep.RegionWith
import Derived.Deep.Slices
import Derived.Handy
import Derived.LaidMore
import Derived.Laws.IdiomCopy
import Derived.Laws.MakeOwn
import Derived.Laws.StructEq
import Derived.Lib.Hide
import Derived.Lib.LaidTab
import Derived.Lib.SmallJoins
import Derived.Maps.OwnOps
import Derived.Maps.OwnSet
import Derived.OpenShut
import Derived.ProofKit
import Derived.Shelf.LaysM
import Derived.Shelf.Slices.Turned
import Derived.Shelf.Strings.Fields
import Derived.Shelf.Strings.FieldsAny
import Derived.Shelf.Strings.FieldsFuncAny
import Derived.Shelf.Strings.FieldsFuncGrows
import Derived.Shelf.Strings.SplitShaped
import Derived.Shelf.Unicode.ExclAny
import Derived.Shelf.Unicode.Is16Any
import Derived.Shelf.Unicode.Is16White
import Derived.Shelf.Unicode.Is16WhiteD
import Derived.Shelf.Unicode.Is32Any
import Derived.Shelf.Unicode.IsSpaceAny
import Derived.Shelf.Unicode.IsSpaceAnyD
import Derived.Shelf.Unicode.Latin
import Derived.ShutString
import Derived.StillTailTactics
import Derived.Stop.LaidErr
import Derived.WalkKit
import Derived.WalkLawsBesides
import Derived.WalkSpells
namespace Go.Proofs.YtebbpcgiacckfaaDoor
theorem rk0 {p : Prop} (h : p := by
  go_enter Tryd.func44, Tryd.ntmps44
  have mkq := True.intro
  repeat (any_goals ((first | clear mkq | go_quiet (fail)); (try go_wp2_with (first | (go_at_call 52; (with_reducible refine (implIn_any (TStore.mk x0 x1 x2 x3 x4 x5 x6 x7 x8 x9 x10 x11 x12) ⟨19, x1_1, x1_2, x1_3, x1_4, x1_5⟩ S q _ (StoreAt.bel bl HS.out) ⟨g1_0, g1_1, g1_2, GT1.out, g1_4, g1_5⟩).mono ?_); rintro e wi1 ⟨rfl, hbi1⟩; rw [H_in1.out]; (have hzi1 := hbi1.sz; obtain ⟨hki1_0, hfi1_0, hli1_0, hni1_0⟩ := hbi1.lay (w.heap.size); obtain ⟨hki1_1, hfi1_1, hli1_1, hni1_1⟩ := hbi1.lay (q); obtain ⟨hki1_2, hfi1_2, hli1_2, hni1_2⟩ := hbi1.lay (b1))) | (go_at_call 52; (with_reducible refine (implIn_any (TStore.mk x0 x1 x2 x3 x4 x5 x6 x7 x8 x9 x10 x11 x12) ⟨19, x2_1, x2_2, x2_3, x2_4, x2_5⟩ S q _ (StoreAt.bel bl HS.out) ⟨g2_0, g2_1, g2_2, GT2.out, g2_4, g2_5⟩).mono ?_); rintro e wi2 ⟨rfl, hbi2⟩; rw [H_in2.out]; (have hzi2 := hbi2.sz; obtain ⟨hki2_0, hfi2_0, hli2_0, hni2_0⟩ := hbi2.lay (w.heap.size); obtain ⟨hki2_1, hfi2_1, hli2_1, hni2_1⟩ := hbi2.lay (q); obtain ⟨hki2_2, hfi2_2, hli2_2, hni2_2⟩ := hbi2.lay (b1))) | (go_at_call 52; (with_reducible refine (implIn_any (TStore.mk x0 x1 x2 x3 x4 x5 x6 x7 x8 x9 x10 x11 x12) ⟨1, x3_1, x3_2, x3_3, x3_4, x3_5⟩ S q _ (StoreAt.bel bl HS.out) ⟨g3_0, g3_1, g3_2, GT3.out, g3_4, g3_5⟩).mono ?_); rintro e wi3 ⟨rfl, hbi3⟩; rw [H_in3.out]; (have hzi3 := hbi3.sz; obtain ⟨hki3_0, hfi3_0, hli3_0, hni3_0⟩ := hbi3.lay (w.heap.size); obtain ⟨hki3_1, hfi3_1, hli3_1, hni3_1⟩ := hbi3.lay (q); obtain ⟨hki3_2, hfi3_2, hli3_2, hni3_2⟩ := hbi3.lay (b1)))))))
  all_goals
   go_returns
   exact ⟨by rw [RR.out]; first | done | rfl, bl⟩) : p := h
theorem rk1 {p : Prop} (h : p := by
  clear hw
  go_enter Tryd.func52, Tryd.ntmps52
  have mkq := True.intro
  repeat (any_goals ((first | clear mkq | go_quiet (fail)); (try go_wp2_with (first | (go_at_call 81; refine (implIsWellFormed_any _ _ hv).mono ?_; rintro e w1 ⟨rfl, hb1⟩; (have hz1 := hb1.sz; obtain ⟨hk1_0, hf1_0, hl1_0, hn1_0⟩ := hb1.lay (w.heap.size); obtain ⟨hk1_1, hf1_1, hl1_1, hn1_1⟩ := hb1.lay (q)); rw [HW.out])))))
  all_goals
   go_returns
   exact ⟨by rw [RR.out]; first | done | rfl, bl⟩) : p := h
theorem rk2 {p : Prop} (h : p := by
  have HH := hide hh
  clear hh
  go_enter Tryd.func52, Tryd.ntmps52
  have mkq := True.intro
  repeat (any_goals ((first | clear mkq | go_quiet (fail)); (try go_wp2_with (first | (go_at_call 81; refine (implIsWellFormed_any _ _ hv).mono ?_; rintro e w1 ⟨rfl, hb1⟩; (have hz1 := hb1.sz; obtain ⟨hk1_0, hf1_0, hl1_0, hn1_0⟩ := hb1.lay (w.heap.size); obtain ⟨hk1_1, hf1_1, hl1_1, hn1_1⟩ := hb1.lay (q)); rw [HW.out]) | (go_at_call 42; refine (hasObject_any (TStore.mk x0 x1 x2 x3 x4 x5 x6 x7 x8 x9 x10 x11 x12) _ _ S q _ (StoreAt.bel bl HSt.out)).mono ?_; rintro e w2 ⟨rfl, hb2⟩; (have hz2 := hb2.sz; obtain ⟨hk2_0, hf2_0, hl2_0, hn2_0⟩ := hb2.lay (w.heap.size); obtain ⟨hk2_1, hf2_1, hl2_1, hn2_1⟩ := hb2.lay (q)); rw [HH.out])))))
  all_goals
   go_returns
   exact ⟨by rw [RR.out]; first | done | rfl, bl⟩) : p := h
theorem rk3 {p : Prop} (h : p := by
  go_enter Tryd.func44, Tryd.ntmps44
  go_wp2_with (fail)
  repeat (any_goals (go_quiet (fail); (try go_wp2_with (fail))))
  all_goals
   go_returns
   exact ⟨by rw [RR.out]; first | done | rfl, bl⟩) : p := h
theorem rk4 {p : Prop} (h : p := by
  have l_key40 : decide ((keys.length : Int) ≤ 40) = true := decide_eq_true (by omega)
  have g_key40 : decide (40 < (keys.length : Int)) = false := decide_eq_false (by omega)
  have e_itk : ((its.length : Int) == (keys.length : Int) + 1) = true := by rw [beq_iff_eq]; omega
  have e_itk2 : ((its.length : Int) == 1 + (keys.length : Int)) = true := by rw [beq_iff_eq]; omega
  have e_itk3 : ((its.length : Int) == wrap64 (1 + (keys.length : Int))) = true := by rw [itk_eq (by omega) (by omega)]; exact decide_eq_true h_itk
  have H_dis := hide h_dis
  have H_allk := hide h_allk
  have H_alli := hide h_alli
  clear h_tag h_key40 h_dis h_allk h_itk h_alli
  go_enter Tryd.func44, Tryd.ntmps44
  have mkq := True.intro
  repeat (any_goals ((first | clear mkq | go_quiet (fail)); (try go_wp2_with (first | (go_at_call 74; (with_reducible refine (implDist_any keys S' _ _ _ (Row.bel bl HRk.out)).mono ?_); rintro e wdk ⟨rfl, hbdk⟩; rw [H_dis.out]; (have hzdk := hbdk.sz; obtain ⟨hkdk_0, hfdk_0, hldk_0, hndk_0⟩ := hbdk.lay (w.heap.size); obtain ⟨hkdk_1, hfdk_1, hldk_1, hndk_1⟩ := hbdk.lay (q))) | (go_at_call 43; (with_reducible refine (implAll_any (TStore.mk x0 x1 x2 x3 x4 x5 x6 x7 x8 x9 x10 x11 x12) keys S S' q _ _ _ (StoreAt.bel bl HS.out) (Row.bel bl HRk.out)).mono ?_); rintro e wak ⟨rfl, hbak⟩; rw [H_allk.out]; (have hzak := hbak.sz; obtain ⟨hkak_0, hfak_0, hlak_0, hnak_0⟩ := hbak.lay (w.heap.size); obtain ⟨hkak_1, hfak_1, hlak_1, hnak_1⟩ := hbak.lay (q))) | (go_at_call 43; (with_reducible refine (implAll_any (TStore.mk x0 x1 x2 x3 x4 x5 x6 x7 x8 x9 x10 x11 x12) its S S' q _ _ _ (StoreAt.bel bl HS.out) (Row.bel bl HRi.out)).mono ?_); rintro e wai ⟨rfl, hbai⟩; rw [H_alli.out]; (have hzai := hbai.sz; obtain ⟨hkai_0, hfai_0, hlai_0, hnai_0⟩ := hbai.lay (w.heap.size); obtain ⟨hkai_1, hfai_1, hlai_1, hnai_1⟩ := hbai.lay (q)))))))
  all_goals
   go_returns
   exact ⟨by rw [RR.out]; first | done | rfl, bl⟩) : p := h
theorem rk5 {p : Prop} (h : p := by
  go_enter Tryd.func44, Tryd.ntmps44
  have mkq := True.intro
  repeat (any_goals ((first | clear mkq | go_quiet (fail)); (try go_wp2_with (first | (go_at_call 43; (with_reducible refine (implAll_any (TStore.mk x0 x1 x2 x3 x4 x5 x6 x7 x8 x9 x10 x11 x12) its S S' q _ _ _ (StoreAt.bel bl HS.out) (Row.bel bl HRi.out)).mono ?_); rintro e wai ⟨rfl, hbai⟩; rw [H_alli.out]; (have hzai := hbai.sz; obtain ⟨hkai_0, hfai_0, hlai_0, hnai_0⟩ := hbai.lay (w.heap.size); obtain ⟨hkai_1, hfai_1, hlai_1, hnai_1⟩ := hbai.lay (q)))))))
  all_goals
   go_returns
   exact ⟨by rw [RR.out]; first | done | rfl, bl⟩) : p := h
theorem rk6 {p : Prop} (h : p := by
  go_enter Tryd.func33, Tryd.ntmps33
  go_wp2_with (fail)
  repeat (any_goals (go_quiet (fail); (try go_wp2_with (fail))))
  all_goals
   go_returns
   exact ⟨by rw [RR.out]; first | done | rfl, bl⟩) : p := h
theorem rk7 {p : Prop} (h : p := by
  go_enter Tryd.func44, Tryd.ntmps44
  have mkq := True.intro
  repeat (any_goals ((first | clear mkq | go_quiet (fail)); (try go_wp2_with (first | (go_at_call 74; (with_reducible refine (implDist_any keys S' _ _ _ (Row.bel bl HRk.out)).mono ?_); rintro e wdk ⟨rfl, hbdk⟩; rw [H_dis.out]; (have hzdk := hbdk.sz; obtain ⟨hkdk_0, hfdk_0, hldk_0, hndk_0⟩ := hbdk.lay (w.heap.size); obtain ⟨hkdk_1, hfdk_1, hldk_1, hndk_1⟩ := hbdk.lay (q))) | (go_at_call 43; (with_reducible refine (implAll_any (TStore.mk x0 x1 x2 x3 x4 x5 x6 x7 x8 x9 x10 x11 x12) keys S S' q _ _ _ (StoreAt.bel bl HS.out) (Row.bel bl HRk.out)).mono ?_); rintro e wak ⟨rfl, hbak⟩; rw [H_allk.out]; (have hzak := hbak.sz; obtain ⟨hkak_0, hfak_0, hlak_0, hnak_0⟩ := hbak.lay (w.heap.size); obtain ⟨hkak_1, hfak_1, hlak_1, hnak_1⟩ := hbak.lay (q)))))))
  all_goals
   go_returns
   exact ⟨by rw [RR.out]; first | done | rfl, bl⟩) : p := h
theorem rk8 {p : Prop} (h : p := by
  go_enter Tryd.func44, Tryd.ntmps44
  have mkq := True.intro
  repeat (any_goals ((first | clear mkq | go_quiet (fail)); (try go_wp2_with (first | (go_at_call 52; (with_reducible refine (implIn_any (TStore.mk x0 x1 x2 x3 x4 x5 x6 x7 x8 x9 x10 x11 x12) ⟨19, x1_1, x1_2, x1_3, x1_4, x1_5⟩ S q _ (StoreAt.bel bl HS.out) ⟨g1_0, g1_1, g1_2, GT1.out, g1_4, g1_5⟩).mono ?_); rintro e wi1 ⟨rfl, hbi1⟩; rw [H_in1.out]; (have hzi1 := hbi1.sz; obtain ⟨hki1_0, hfi1_0, hli1_0, hni1_0⟩ := hbi1.lay (w.heap.size); obtain ⟨hki1_1, hfi1_1, hli1_1, hni1_1⟩ := hbi1.lay (q); obtain ⟨hki1_2, hfi1_2, hli1_2, hni1_2⟩ := hbi1.lay (b1))) | (go_at_call 52; (with_reducible refine (implIn_any (TStore.mk x0 x1 x2 x3 x4 x5 x6 x7 x8 x9 x10 x11 x12) ⟨19, x2_1, x2_2, x2_3, x2_4, x2_5⟩ S q _ (StoreAt.bel bl HS.out) ⟨g2_0, g2_1, g2_2, GT2.out, g2_4, g2_5⟩).mono ?_); rintro e wi2 ⟨rfl, hbi2⟩; rw [H_in2.out]; (have hzi2 := hbi2.sz; obtain ⟨hki2_0, hfi2_0, hli2_0, hni2_0⟩ := hbi2.lay (w.heap.size); obtain ⟨hki2_1, hfi2_1, hli2_1, hni2_1⟩ := hbi2.lay (q); obtain ⟨hki2_2, hfi2_2, hli2_2, hni2_2⟩ := hbi2.lay (b1)))))))
  all_goals
   go_returns
   exact ⟨by rw [RR.out]; first | done | rfl, bl⟩) : p := h
theorem rk9 {p : Prop} (h : p := by
  simp only [VVal.val]
  unfold maxLen at ht
  go_enter Tryd.func79, Tryd.ntmps79
  go_wp2
  all_goals
   go_returns
   go_light
   refine ⟨?_, bl⟩
   simp only [Array.getD_eq_getD_getElem?, List.getElem?_toArray, List.getElem?_cons_succ, List.getElem?_cons_zero, Option.getD_some]
   have hzz := size_of_empty t
   first | (simp_all [wellB]; done) | (simp_all [wellB]; omega) | (unfold wellB; grind)) : p := h
theorem rk10 {p : Prop} (h : p := by
  simp only [VVal.val]
  unfold maxLen at ht
  go_enter Tryd.func81, Tryd.ntmps81
  go_wp2
  all_goals
   go_returns
   go_light
   refine ⟨?_, bl⟩
   simp only [Array.getD_eq_getD_getElem?, List.getElem?_toArray, List.getElem?_cons_succ, List.getElem?_cons_zero, Option.getD_some]
   have hzz := size_of_empty t
   first | (simp_all [wellB]; done) | (simp_all [wellB]; omega) | (unfold wellB; grind)) : p := h
theorem rk11 {p : Prop} (h : p := by
  clear h_rng
  go_enter Tryd.func33, Tryd.ntmps33
  (go_wp2_with (fail))
  repeat (any_goals (go_quiet (fail); (try (go_wp2_with (fail)))))
  refine wp_region_held_drew (S := fun w' => w'.cell? ⟨w.heap.size, 0, none⟩ = some (.int .i64 9) ∧ w'.cell? ⟨w.heap.size, 3, none⟩ = some (.slice (some ⟨b1, o1, none⟩) 2 ci) ∧ w'.cell? ⟨b1, o1, none⟩ = some (.int .i64 2) ∧ w'.cell? ⟨b1, o1 + 1, none⟩ = some (.int .i64 u1) ∧ w'.cell? ⟨b1, o1 + 2, none⟩ = some (.int .i64 u2) ∧ w'.cell? ⟨b1, o1 + 3, none⟩ = some (.string u3) ∧ w'.cell? ⟨b1, o1 + 4, none⟩ = some (.int .i64 u4) ∧ w'.cell? ⟨b1, o1 + 5, none⟩ = some (.int .i64 u5) ∧ w'.cell? ⟨b1, o1 + 6, none⟩ = some (.int .i64 1) ∧ w'.cell? ⟨b1, o1 + 7, none⟩ = some (.int .i64 v1) ∧ w'.cell? ⟨b1, o1 + 8, none⟩ = some (.int .i64 v2) ∧ w'.cell? ⟨b1, o1 + 9, none⟩ = some (.string v3) ∧ w'.cell? ⟨b1, o1 + 10, none⟩ = some (.int .i64 v4) ∧ w'.cell? ⟨b1, o1 + 11, none⟩ = some (.int .i64 v5)) (by kernel_rfl) ?_ (fun hHeld => ?_)
  ·
   exact ⟨(by first | (simp [*]; done) | (simp [go_sem, *]; done)), (by first | (simp [*]; done) | (simp [go_sem, *]; done)), (Bel.box (W := w) bl b1 hl1 _).trans c1_0, (Bel.box (W := w) bl b1 hl1 _).trans c1_1, (Bel.box (W := w) bl b1 hl1 _).trans c1_2, (Bel.box (W := w) bl b1 hl1 _).trans c1_3, (Bel.box (W := w) bl b1 hl1 _).trans c1_4, (Bel.box (W := w) bl b1 hl1 _).trans c1_5, (Bel.box (W := w) bl b1 hl1 _).trans c2_0, (Bel.box (W := w) bl b1 hl1 _).trans c2_1, (Bel.box (W := w) bl b1 hl1 _).trans c2_2, (Bel.box (W := w) bl b1 hl1 _).trans c2_3, (Bel.box (W := w) bl b1 hl1 _).trans c2_4, (Bel.box (W := w) bl b1 hl1 _).trans c2_5⟩
  refine tkI 0 ?_
  refine tkI 1 ?_
  refine tkI 2 ?_
  refine tkI 3 ?_
  refine tkI 4 ?_
  refine tkI 5 ?_
  refine tkI 6 ?_
  refine tkI 7 ?_
  refine tkI 8 ?_
  refine tkI 9 ?_
  refine tkI 10 ?_
  refine tkI 11 ?_
  refine tkI 12 ?_
  refine tkI 13 ?_
  refine tkI 14 ?_
  refine tkI 15 ?_
  refine tkI 16 ?_
  refine tkI 17 ?_
  refine tkI 18 ?_
  refine tkI 19 ?_
  refine tkI 20 ?_
  refine tkI 21 ?_
  refine tkI 22 ?_
  refine tkI 23 ?_
  refine tkI 24 ?_
  refine tkI 25 ?_
  refine wpAnyH_ready (rs := [26]) (by kernel_rfl) (by simp) ?_
  refine AllReadyH.cons (o := _) rfl (fun K hK => ?_) AllReadyH.nil
  go_simp
  clear hHeld
  (go_at_call 50; (with_reducible refine (specIn_any (TStore.mk x0 x1 x2 x3 x4 x5 x6 x7 x8 x9 x10 x11 x12) ⟨2, u1, u2, u3, u4, u5⟩ S q _ (StoreAt.bel bl HS.out) ⟨g1_0, g1_1, g1_2, GT1.out, g1_4, g1_5⟩).mono ?_); rintro e wi1 ⟨rfl, hbi1⟩; rw [H_in1.out]; (have hzi1 := hbi1.sz; obtain ⟨hki1_0, hfi1_0, hli1_0, hni1_0⟩ := hbi1.lay (w.heap.size); obtain ⟨hki1_1, hfi1_1, hli1_1, hni1_1⟩ := hbi1.lay (q); obtain ⟨hki1_2, hfi1_2, hli1_2, hni1_2⟩ := hbi1.lay (b1)))
  refine hK.out _ _ ?_ (fun hHeld => ?_)
  ·
   exact ⟨(by first | (simp [*]; done) | (simp [go_sem, *]; done)), (by first | (simp [*]; done) | (simp [go_sem, *]; done)), (Bel.box (W := w) bl b1 hl1 _).trans c1_0, (Bel.box (W := w) bl b1 hl1 _).trans c1_1, (Bel.box (W := w) bl b1 hl1 _).trans c1_2, (Bel.box (W := w) bl b1 hl1 _).trans c1_3, (Bel.box (W := w) bl b1 hl1 _).trans c1_4, (Bel.box (W := w) bl b1 hl1 _).trans c1_5, (Bel.box (W := w) bl b1 hl1 _).trans c2_0, (Bel.box (W := w) bl b1 hl1 _).trans c2_1, (Bel.box (W := w) bl b1 hl1 _).trans c2_2, (Bel.box (W := w) bl b1 hl1 _).trans c2_3, (Bel.box (W := w) bl b1 hl1 _).trans c2_4, (Bel.box (W := w) bl b1 hl1 _).trans c2_5⟩
  clear hK K
  (try simp only [Act.put, List.setIfInBounds_toArray, List.set_cons_zero, List.set_cons_succ, List.getElem_toArray, List.getElem_cons_zero, List.getElem_cons_succ])
  refine tkI 27 ?_
  refine tkI 28 ?_
  refine tkI 29 ?_
  refine tkI 30 ?_
  refine tkI 31 ?_
  refine tkI 32 ?_
  refine tkI 33 ?_
  refine wpAnyH_ready (rs := [34]) (by kernel_rfl) (by simp) ?_
  refine AllReadyH.cons (o := _) rfl (fun K hK => ?_) AllReadyH.nil
  go_simp
  clear hHeld
  (go_at_call 50; (with_reducible refine (specIn_any (TStore.mk x0 x1 x2 x3 x4 x5 x6 x7 x8 x9 x10 x11 x12) ⟨1, v1, v2, v3, v4, v5⟩ S q _ (StoreAt.bel bl HS.out) ⟨g2_0, g2_1, g2_2, GT2.out, g2_4, g2_5⟩).mono ?_); rintro e wi2 ⟨rfl, hbi2⟩; rw [H_in2.out]; (have hzi2 := hbi2.sz; obtain ⟨hki2_0, hfi2_0, hli2_0, hni2_0⟩ := hbi2.lay (w.heap.size); obtain ⟨hki2_1, hfi2_1, hli2_1, hni2_1⟩ := hbi2.lay (q); obtain ⟨hki2_2, hfi2_2, hli2_2, hni2_2⟩ := hbi2.lay (b1)))
  refine hK.out _ _ ?_ (fun hHeld => ?_)
  ·
   exact ⟨(by first | (simp [*]; done) | (simp [go_sem, *]; done)), (by first | (simp [*]; done) | (simp [go_sem, *]; done)), (Bel.box (W := w) bl b1 hl1 _).trans c1_0, (Bel.box (W := w) bl b1 hl1 _).trans c1_1, (Bel.box (W := w) bl b1 hl1 _).trans c1_2, (Bel.box (W := w) bl b1 hl1 _).trans c1_3, (Bel.box (W := w) bl b1 hl1 _).trans c1_4, (Bel.box (W := w) bl b1 hl1 _).trans c1_5, (Bel.box (W := w) bl b1 hl1 _).trans c2_0, (Bel.box (W := w) bl b1 hl1 _).trans c2_1, (Bel.box (W := w) bl b1 hl1 _).trans c2_2, (Bel.box (W := w) bl b1 hl1 _).trans c2_3, (Bel.box (W := w) bl b1 hl1 _).trans c2_4, (Bel.box (W := w) bl b1 hl1 _).trans c2_5⟩
  clear hK K
  (try simp only [Act.put, List.setIfInBounds_toArray, List.set_cons_zero, List.set_cons_succ, List.getElem_toArray, List.getElem_cons_zero, List.getElem_cons_succ])
  refine tkI 35 ?_
  refine tkI 36 ?_
  refine tkI 37 ?_
  refine tkI 38 ?_
  refine tkI 39 ?_
  refine tkI 40 ?_
  refine tkI 41 ?_
  refine tkI 42 ?_
  refine tkI 43 ?_
  refine tkI 44 ?_
  refine tkI 45 ?_
  refine tkI 46 ?_
  refine tkI 47 ?_
  refine tkI 48 ?_
  refine wpAnyH_ready (rs := [49]) (by kernel_rfl) (by simp) ?_
  refine AllReadyH.cons (o := _) rfl (fun K hK => ?_) AllReadyH.nil
  go_simp
  clear hHeld
  (go_at_call 29; refine (l1InS_any _ _ _ _).mono ?_; rintro e w9 ⟨rfl, rfl⟩; rw [H_lin.out])
  refine hK.out _ _ ?_ (fun hHeld => ?_)
  ·
   exact ⟨(by first | (simp [*]; done) | (simp [go_sem, *]; done)), (by first | (simp [*]; done) | (simp [go_sem, *]; done)), (Bel.box (W := w) bl b1 hl1 _).trans c1_0, (Bel.box (W := w) bl b1 hl1 _).trans c1_1, (Bel.box (W := w) bl b1 hl1 _).trans c1_2, (Bel.box (W := w) bl b1 hl1 _).trans c1_3, (Bel.box (W := w) bl b1 hl1 _).trans c1_4, (Bel.box (W := w) bl b1 hl1 _).trans c1_5, (Bel.box (W := w) bl b1 hl1 _).trans c2_0, (Bel.box (W := w) bl b1 hl1 _).trans c2_1, (Bel.box (W := w) bl b1 hl1 _).trans c2_2, (Bel.box (W := w) bl b1 hl1 _).trans c2_3, (Bel.box (W := w) bl b1 hl1 _).trans c2_4, (Bel.box (W := w) bl b1 hl1 _).trans c2_5⟩
  clear hK K
  (try simp only [Act.put, List.setIfInBounds_toArray, List.set_cons_zero, List.set_cons_succ, List.getElem_toArray, List.getElem_cons_zero, List.getElem_cons_succ])
  refine tkI 50 ?_
  refine tkI 51 ?_
  refine wpAnyH_done (by kernel_rfl) ?_ _
  all_goals (try (go_wp2_with (fail)))
  all_goals
   go_returns
   exact ⟨by rw [RR.out]; first | done | rfl, bl⟩) : p := h
theorem rk12 {p : Prop} (h : p := by
  go_enter Tryd.func44, Tryd.ntmps44
  have mkq := True.intro
  repeat (any_goals ((first | clear mkq | go_quiet (fail)); (try go_wp2_with (first | (go_at_call 52; (with_reducible refine (implIn_any (TStore.mk x0 x1 x2 x3 x4 x5 x6 x7 x8 x9 x10 x11 x12) ⟨19, x1_1, x1_2, x1_3, x1_4, x1_5⟩ S q _ (StoreAt.bel bl HS.out) ⟨g1_0, g1_1, g1_2, GT1.out, g1_4, g1_5⟩).mono ?_); rintro e wi1 ⟨rfl, hbi1⟩; rw [H_in1.out]; (have hzi1 := hbi1.sz; obtain ⟨hki1_0, hfi1_0, hli1_0, hni1_0⟩ := hbi1.lay (w.heap.size); obtain ⟨hki1_1, hfi1_1, hli1_1, hni1_1⟩ := hbi1.lay (q); obtain ⟨hki1_2, hfi1_2, hli1_2, hni1_2⟩ := hbi1.lay (b1)))))))
  all_goals
   go_returns
   exact ⟨by rw [RR.out]; first | done | rfl, bl⟩) : p := h
theorem rk13 {p : Prop} (h : p := by
  have l_key40 : decide ((keys.length : Int) ≤ 40) = true := decide_eq_true (by omega)
  have g_key40 : decide (40 < (keys.length : Int)) = false := decide_eq_false (by omega)
  have e_itk : ((its.length : Int) == (keys.length : Int) + 1) = true := by rw [beq_iff_eq]; omega
  have e_itk2 : ((its.length : Int) == 1 + (keys.length : Int)) = true := by rw [beq_iff_eq]; omega
  have e_itk3 : ((its.length : Int) == wrap64 (1 + (keys.length : Int))) = true := by rw [itk_eq (by omega) (by omega)]; exact decide_eq_true h_itk
  have H_dis := hide h_dis
  have H_alli := hide h_alli
  clear h_tag h_key40 h_dis h_itk h_alli
  go_enter Tryd.func44, Tryd.ntmps44
  have mkq := True.intro
  repeat (any_goals ((first | clear mkq | go_quiet (fail)); (try go_wp2_with (first | (go_at_call 74; (with_reducible refine (implDist_any keys S' _ _ _ (Row.bel bl HRk.out)).mono ?_); rintro e wdk ⟨rfl, hbdk⟩; rw [H_dis.out]; (have hzdk := hbdk.sz; obtain ⟨hkdk_0, hfdk_0, hldk_0, hndk_0⟩ := hbdk.lay (w.heap.size); obtain ⟨hkdk_1, hfdk_1, hldk_1, hndk_1⟩ := hbdk.lay (q))) | (go_at_call 43; (with_reducible refine (implAll_any (TStore.mk x0 x1 x2 x3 x4 x5 x6 x7 x8 x9 x10 x11 x12) its S S' q _ _ _ (StoreAt.bel bl HS.out) (Row.bel bl HRi.out)).mono ?_); rintro e wai ⟨rfl, hbai⟩; rw [H_alli.out]; (have hzai := hbai.sz; obtain ⟨hkai_0, hfai_0, hlai_0, hnai_0⟩ := hbai.lay (w.heap.size); obtain ⟨hkai_1, hfai_1, hlai_1, hnai_1⟩ := hbai.lay (q)))))))
  all_goals
   go_returns
   exact ⟨by rw [RR.out]; first | done | rfl, bl⟩) : p := h
theorem rk14 {p : Prop} (h : p := by
  have H_al := hide h_al
  clear h_tag h_key0 h_al
  go_enter Tryd.func44, Tryd.ntmps44
  have mkq := True.intro
  repeat (any_goals ((first | clear mkq | go_quiet (fail)); (try go_wp2_with (first | (go_at_call 43; (with_reducible refine (HALL.out _ (StoreAt.bel bl HS.out) (Row.bel bl HRi.out)).mono ?_); rintro e wai ⟨rfl, hbai⟩; rw [H_al.out]; (have hzai := hbai.sz; obtain ⟨hkai_0, hfai_0, hlai_0, hnai_0⟩ := hbai.lay (w.heap.size); obtain ⟨hkai_1, hfai_1, hlai_1, hnai_1⟩ := hbai.lay (q); obtain ⟨hkai_2, hfai_2, hlai_2, hnai_2⟩ := hbai.lay (b1)))))))
  all_goals
   go_returns
   exact ⟨by rw [RR.out]; first | done | rfl, bl⟩) : p := h
theorem rk15 {p : Prop} (h : p := by
  go_enter Tryd.func44, Tryd.ntmps44
  (go_wp2_with (fail))
  repeat (any_goals (go_quiet (fail); (try (go_wp2_with (fail)))))
  refine wp_region_held_drew (S := fun w' => w'.cell? ⟨w.heap.size, 0, none⟩ = some (.int .i64 9) ∧ w'.cell? ⟨w.heap.size, 3, none⟩ = some (.slice (some ⟨b1, o1, none⟩) 2 ci) ∧ w'.cell? ⟨b1, o1, none⟩ = some (.int .i64 2) ∧ w'.cell? ⟨b1, o1 + 1, none⟩ = some (.int .i64 u1) ∧ w'.cell? ⟨b1, o1 + 2, none⟩ = some (.int .i64 u2) ∧ w'.cell? ⟨b1, o1 + 3, none⟩ = some (.string u3) ∧ w'.cell? ⟨b1, o1 + 4, none⟩ = some (.int .i64 u4) ∧ w'.cell? ⟨b1, o1 + 5, none⟩ = some (.int .i64 u5) ∧ w'.cell? ⟨b1, o1 + 6, none⟩ = some (.int .i64 1) ∧ w'.cell? ⟨b1, o1 + 7, none⟩ = some (.int .i64 v1) ∧ w'.cell? ⟨b1, o1 + 8, none⟩ = some (.int .i64 v2) ∧ w'.cell? ⟨b1, o1 + 9, none⟩ = some (.string v3) ∧ w'.cell? ⟨b1, o1 + 10, none⟩ = some (.int .i64 v4) ∧ w'.cell? ⟨b1, o1 + 11, none⟩ = some (.int .i64 v5)) (by kernel_rfl) ?_ (fun hHeld => ?_)
  ·
   exact ⟨(by first | (simp [*]; done) | (simp [go_sem, *]; done)), (by first | (simp [*]; done) | (simp [go_sem, *]; done)), (Bel.box (W := w) bl b1 hl1 _).trans c1_0, (Bel.box (W := w) bl b1 hl1 _).trans c1_1, (Bel.box (W := w) bl b1 hl1 _).trans c1_2, (Bel.box (W := w) bl b1 hl1 _).trans c1_3, (Bel.box (W := w) bl b1 hl1 _).trans c1_4, (Bel.box (W := w) bl b1 hl1 _).trans c1_5, (Bel.box (W := w) bl b1 hl1 _).trans c2_0, (Bel.box (W := w) bl b1 hl1 _).trans c2_1, (Bel.box (W := w) bl b1 hl1 _).trans c2_2, (Bel.box (W := w) bl b1 hl1 _).trans c2_3, (Bel.box (W := w) bl b1 hl1 _).trans c2_4, (Bel.box (W := w) bl b1 hl1 _).trans c2_5⟩
  refine tkI 0 ?_
  refine tkI 1 ?_
  refine tkI 2 ?_
  refine tkI 3 ?_
  refine tkI 4 ?_
  refine tkI 5 ?_
  refine tkI 6 ?_
  refine tkI 7 ?_
  refine tkI 8 ?_
  refine tkI 9 ?_
  refine tkI 10 ?_
  refine tkI 11 ?_
  refine tkI 12 ?_
  refine tkI 13 ?_
  refine tkI 14 ?_
  refine tkI 15 ?_
  refine tkI 16 ?_
  refine tkI 17 ?_
  refine tkI 18 ?_
  refine tkI 19 ?_
  refine tkI 20 ?_
  refine tkI 21 ?_
  refine tkI 22 ?_
  refine tkI 23 ?_
  refine wpAnyH_ready (rs := [24]) (by kernel_rfl) (by simp) ?_
  refine AllReadyH.cons (o := _) rfl (fun K hK => ?_) AllReadyH.nil
  go_simp
  clear hHeld
  (go_at_call 43; (with_reducible refine (HALL.out _ (StoreAt.bel bl HS.out) (Row.bel bl HRi.out)).mono ?_); rintro e wai ⟨rfl, hbai⟩; rw [H_al.out]; (have hzai := hbai.sz; obtain ⟨hkai_0, hfai_0, hlai_0, hnai_0⟩ := hbai.lay (w.heap.size); obtain ⟨hkai_1, hfai_1, hlai_1, hnai_1⟩ := hbai.lay (q); obtain ⟨hkai_2, hfai_2, hlai_2, hnai_2⟩ := hbai.lay (b1)))
  refine hK.out _ _ ?_ (fun hHeld => ?_)
  ·
   exact ⟨(by first | (simp [*]; done) | (simp [go_sem, *]; done)), (by first | (simp [*]; done) | (simp [go_sem, *]; done)), (Bel.box (W := w) bl b1 hl1 _).trans c1_0, (Bel.box (W := w) bl b1 hl1 _).trans c1_1, (Bel.box (W := w) bl b1 hl1 _).trans c1_2, (Bel.box (W := w) bl b1 hl1 _).trans c1_3, (Bel.box (W := w) bl b1 hl1 _).trans c1_4, (Bel.box (W := w) bl b1 hl1 _).trans c1_5, (Bel.box (W := w) bl b1 hl1 _).trans c2_0, (Bel.box (W := w) bl b1 hl1 _).trans c2_1, (Bel.box (W := w) bl b1 hl1 _).trans c2_2, (Bel.box (W := w) bl b1 hl1 _).trans c2_3, (Bel.box (W := w) bl b1 hl1 _).trans c2_4, (Bel.box (W := w) bl b1 hl1 _).trans c2_5⟩
  clear hK K
  (try simp only [Act.put, List.setIfInBounds_toArray, List.set_cons_zero, List.set_cons_succ, List.getElem_toArray, List.getElem_cons_zero, List.getElem_cons_succ])
  refine tkI 25 ?_
  refine tkI 26 ?_
  refine tkI 27 ?_
  refine tkI 28 ?_
  refine tkI 29 ?_
  refine tkI 30 ?_
  refine tkI 31 ?_
  refine tkI 32 ?_
  refine tkI 33 ?_
  refine tkI 34 ?_
  refine tkI 35 ?_
  refine tkI 36 ?_
  refine tkI 37 ?_
  refine tkI 38 ?_
  refine tkI 39 ?_
  refine tkI 40 ?_
  refine tkI 41 ?_
  refine tkI 42 ?_
  refine tkI 43 ?_
  refine tkI 44 ?_
  refine tkI 45 ?_
  refine tkI 46 ?_
  refine tkI 47 ?_
  refine tkI 48 ?_
  refine tkI 49 ?_
  refine wpAnyH_done (by kernel_rfl) ?_ _
  all_goals (cases bt <;> cases bk)
  all_goals (try (go_wp2_with (fail)))
  all_goals
   go_returns
   exact ⟨by rw [RR.out]; first | done | rfl, bl⟩) : p := h
theorem rk16 {p : Prop} (h : p := by
  clear h
  go_enter Tryd.func75, Tryd.ntmps75
  go_wp2_with (fail)
  repeat (any_goals (go_quiet (fail); (try go_wp2_with (fail))))
  all_goals
   go_returns
   exact ⟨ret_bl RR.out.symm, bl⟩) : p := h
theorem rk17 {p : Prop} (h : p := by
  have H_alli := hide h_alli
  clear h_t0 h_t1 h_fl h_alli h_key0
  go_enter Tryd.func44, Tryd.ntmps44
  go_wp2_with (fail)
  repeat (any_goals (go_quiet (fail); (try go_wp2_with (fail))))
  go_region_held3 (fun w' => w'.cell? ⟨w.heap.size, 0, none⟩ = some (.int .i64 5) ∧ w'.cell? ⟨w.heap.size, 1, none⟩ = some (.int .i64 (m : Int)) ∧ w'.cell? ⟨w.heap.size, 3, none⟩ = some (.slice Ai its.length ci) ∧ w'.cell? ⟨w.heap.size, 4, none⟩ = some (.slice Ak keys.length ck) ∧ w'.cell? ⟨q, 1, none⟩ = some (.slice (some ⟨b4, o4, none⟩) x1.length c1) ∧ w'.cell? ⟨b4, o4 + m * 3 + 1, none⟩ = some (.slice A4_1 x4_1.length C4_1)) (go_keep) (first | (go_at_call 43; (with_reducible refine (implAll_any (TStore.mk x0 x1 x2 x3 x4 x5 x6 x7 x8 x9 x10 x11 x12) its S S' q _ _ _ (StoreAt.bel bl HS.out) (Row.bel bl HRi.out)).mono ?_); rintro e wai ⟨rfl, hbai⟩; rw [H_alli.out]; (have hzai := hbai.sz; obtain ⟨hkai_0, hfai_0, hlai_0, hnai_0⟩ := hbai.lay (w.heap.size); obtain ⟨hkai_1, hfai_1, hlai_1, hnai_1⟩ := hbai.lay (q); obtain ⟨hkai_2, hfai_2, hlai_2, hnai_2⟩ := hbai.lay (b4))))
  all_goals
   (try go_wp2_with (fail))
  all_goals
   go_returns
   exact ⟨by rw [RR.out]; first | done | rfl, bl⟩) : p := h
theorem rk18 {p : Prop} (h : p := by
  go_enter Tryd.func54, Tryd.ntmps54
  go_wp2_with (fail)
  repeat (any_goals (go_quiet (fail); (try go_wp2_with (fail))))
  go_region_held3 (fun w' => w'.cell? ⟨w.heap.size, 1, none⟩ = some (.int .i64 (m : Int)) ∧ w'.cell? ⟨w.heap.size, 2, none⟩ = some (.int .i64 (j : Int)) ∧ w'.cell? ⟨q, 2, none⟩ = some (.slice (some ⟨b1, o1, none⟩) x2.length c2) ∧ w'.cell? ⟨b1, o1 + m * 5 + 3, none⟩ = some (.slice (some ⟨b2, o2, none⟩) x1_3.length C1_3) ∧ w'.cell? ⟨b2, o2 + j * 6, none⟩ = some (.int .i64 x2_0) ∧ w'.cell? ⟨b2, o2 + j * 6 + 1, none⟩ = some (.int .i64 x2_1) ∧ w'.cell? ⟨b2, o2 + j * 6 + 2, none⟩ = some (.int .i64 x2_2) ∧ w'.cell? ⟨b2, o2 + j * 6 + 3, none⟩ = some (.string x2_3) ∧ w'.cell? ⟨b2, o2 + j * 6 + 4, none⟩ = some (.int .i64 x2_4) ∧ w'.cell? ⟨b2, o2 + j * 6 + 5, none⟩ = some (.int .i64 x2_5)) (first | exact ⟨(by first | (simp [*]; done) | (simp [go_sem, *]; done)), (by first | (simp [*]; done) | (simp [go_sem, *]; done)), (Bel.box (W := w) bl q hq _).trans e2, (Bel.box (W := w) bl b1 hl1 _).trans c1_3, (Bel.box (W := w) bl b2 hl2 _).trans c2_0, (Bel.box (W := w) bl b2 hl2 _).trans c2_1, (Bel.box (W := w) bl b2 hl2 _).trans c2_2, (Bel.box (W := w) bl b2 hl2 _).trans c2_3, (Bel.box (W := w) bl b2 hl2 _).trans c2_4, (Bel.box (W := w) bl b2 hl2 _).trans c2_5⟩) (fail)
  go_wp2_with (fail)
  repeat (any_goals (go_quiet (fail); (try go_wp2_with (fail))))
  all_goals
   refine bodyPost_ret (v := .tuple #[.agg #[.int .i64 x2_0, .int .i64 x2_1, .int .i64 x2_2, .string x2_3, .int .i64 x2_4, .int .i64 x2_5], .int .i64 0]) (by simp [results, Tryd.results54, go_sem] <;> rfl) rfl ⟨?_, bl⟩
   rw [RR.out]; first | done | rfl) : p := h
theorem rk19 {p : Prop} (h : p := by
  go_enter Tryd.func10, Tryd.ntmps10
  have mkq := True.intro
  repeat (any_goals ((first | clear mkq | go_quiet (fail)); (try go_wp2_with (first | (go_at_call 40; refine (allNames_row x0 S _ _ _ (Row.bel bl HR0.out) (HT.out.on bl)).mono ?_; rintro e w8 ⟨rfl, hb8⟩; rw [HN.out]; (have hz8 := hb8.sz; obtain ⟨hk8_0, hf8_0, hl8_0, hn8_0⟩ := hb8.lay (w.heap.size))) | (go_at_call 41; refine (validRecords_row x1 S _ _ _ (Row.bel bl HR1.out) (HT.out.on bl)).mono ?_; rintro e w9 ⟨rfl, hb9⟩; rw [HRE.out]; (have hz9 := hb9.sz; obtain ⟨hk9_0, hf9_0, hl9_0, hn9_0⟩ := hb9.lay (w.heap.size)))))))
  all_goals
   go_returns
   exact ⟨ret_bl RR.out.symm, bl⟩) : p := h
theorem rk20 {p : Prop} (h : p := by
  go_enter Tryd.func44, Tryd.ntmps44
  have mkq := True.intro
  repeat (any_goals ((first | clear mkq | go_quiet (fail)); (try go_wp2_with (first | (go_at_call 74; (with_reducible refine (implDist_any keys S' _ _ _ (Row.bel bl HRk.out)).mono ?_); rintro e wdk ⟨rfl, hbdk⟩; rw [H_dis.out]; (have hzdk := hbdk.sz; obtain ⟨hkdk_0, hfdk_0, hldk_0, hndk_0⟩ := hbdk.lay (w.heap.size); obtain ⟨hkdk_1, hfdk_1, hldk_1, hndk_1⟩ := hbdk.lay (q)))))))
  all_goals
   go_returns
   exact ⟨by rw [RR.out]; first | done | rfl, bl⟩) : p := h
theorem rk21 {p : Prop} (h : p := by
  go_enter Tryd.func33, Tryd.ntmps33
  have mkq := True.intro
  repeat (any_goals ((first | clear mkq | go_quiet (fail)); (try go_wp2_with (first | (go_at_call 34; (with_reducible refine (specAll_any (TStore.mk x0 x1 x2 x3 x4 x5 x6 x7 x8 x9 x10 x11 x12) its S S' q _ _ _ (StoreAt.bel bl HS.out) (Row.bel bl HRi.out)).mono ?_); rintro e wai ⟨rfl, hbai⟩; rw [H_alli.out]; (have hzai := hbai.sz; obtain ⟨hkai_0, hfai_0, hlai_0, hnai_0⟩ := hbai.lay (w.heap.size); obtain ⟨hkai_1, hfai_1, hlai_1, hnai_1⟩ := hbai.lay (q)))))))
  all_goals
   go_returns
   exact ⟨by rw [RR.out]; first | done | rfl, bl⟩) : p := h
theorem rk22 {p : Prop} (h : p := by
  go_enter Tryd.func8, Tryd.ntmps8
  have mkq := True.intro
  repeat (any_goals ((first | clear mkq | go_quiet (fail)); (try go_wp2_with (go_at_call 29; refine (l1InS_any _ _ _ _).mono ?_; rintro e w9 ⟨rfl, rfl⟩))))
  all_goals
   go_returns
   exact ⟨by rw [RR.out]; first | done | rfl, bl⟩) : p := h
theorem rk23 {p : Prop} (h : p := by
  have e_key0 : ((keys.length : Int) == 0) = true := by rw [beq_iff_eq]; omega
  have n_key0 : ((keys.length : Int) != 0) = false := by rw [bne_eq_false_iff_eq]; omega
  have l_t1 : decide (1 ≤ tag) = true := decide_eq_true (by omega)
  have g_t1 : decide (tag < 1) = false := decide_eq_false (by omega)
  have g_t2 : decide (0 < tag) = true := decide_eq_true (by omega)
  have l_n3 : decide (0 ≤ x3_1) = true := decide_eq_true (by omega)
  have H_in1 := hide h_in1
  have H_in2 := hide h_in2
  have H_in3 := hide h_in3
  clear h_key0 h_n3 h_in1 h_in2 h_in3
  go_enter Tryd.func33, Tryd.ntmps33
  (go_wp2_with (fail))
  go_quiet (fail)
  go_upto_region 20 with (fail)
  simp only [List.append]
  (go_wp2_with (first | (go_at_call 50; (with_reducible refine (specIn_any (TStore.mk x0 x1 x2 x3 x4 x5 x6 x7 x8 x9 x10 x11 x12) ⟨19, x1_1, x1_2, x1_3, x1_4, x1_5⟩ S q _ (StoreAt.bel bl HS.out) ⟨g1_0, g1_1, g1_2, GT1.out, g1_4, g1_5⟩).mono ?_); rintro e wi1 ⟨rfl, hbi1⟩; rw [H_in1.out]; (have hzi1 := hbi1.sz; obtain ⟨hki1_0, hfi1_0, hli1_0, hni1_0⟩ := hbi1.lay (w.heap.size); obtain ⟨hki1_1, hfi1_1, hli1_1, hni1_1⟩ := hbi1.lay (q); obtain ⟨hki1_2, hfi1_2, hli1_2, hni1_2⟩ := hbi1.lay (b1))) | (go_at_call 50; (with_reducible refine (specIn_any (TStore.mk x0 x1 x2 x3 x4 x5 x6 x7 x8 x9 x10 x11 x12) ⟨19, x2_1, x2_2, x2_3, x2_4, x2_5⟩ S q _ (StoreAt.bel bl HS.out) ⟨g2_0, g2_1, g2_2, GT2.out, g2_4, g2_5⟩).mono ?_); rintro e wi2 ⟨rfl, hbi2⟩; rw [H_in2.out]; (have hzi2 := hbi2.sz; obtain ⟨hki2_0, hfi2_0, hli2_0, hni2_0⟩ := hbi2.lay (w.heap.size); obtain ⟨hki2_1, hfi2_1, hli2_1, hni2_1⟩ := hbi2.lay (q); obtain ⟨hki2_2, hfi2_2, hli2_2, hni2_2⟩ := hbi2.lay (b1))) | (go_at_call 50; (with_reducible refine (specIn_any (TStore.mk x0 x1 x2 x3 x4 x5 x6 x7 x8 x9 x10 x11 x12) ⟨1, x3_1, x3_2, x3_3, x3_4, x3_5⟩ S q _ (StoreAt.bel bl HS.out) ⟨g3_0, g3_1, g3_2, GT3.out, g3_4, g3_5⟩).mono ?_); rintro e wi3 ⟨rfl, hbi3⟩; rw [H_in3.out]; (have hzi3 := hbi3.sz; obtain ⟨hki3_0, hfi3_0, hli3_0, hni3_0⟩ := hbi3.lay (w.heap.size); obtain ⟨hki3_1, hfi3_1, hli3_1, hni3_1⟩ := hbi3.lay (q); obtain ⟨hki3_2, hfi3_2, hli3_2, hni3_2⟩ := hbi3.lay (b1)))))
  all_goals
   go_returns
   exact ⟨by rw [RR.out]; first | done | rfl, bl⟩) : p := h
theorem rk24 {p : Prop} (h : p := by
  clear hbw0
  go_enter Tryd.func75, Tryd.ntmps75
  go_wp2_with (fail)
  repeat (any_goals (go_quiet (fail); (try go_wp2_with (fail))))
  go_loopw [80] (fun v wr => v = .int .i64 0 ∧ Bel w wr) (fun _ _ => 0)
  case atStart => exact ⟨rfl, bl⟩
  case round =>
   obtain ⟨rfl, hbw⟩ := hrel
   go_wp2_with (fail)
   repeat (any_goals (go_quiet (fail); (try go_wp2_with (fail))))
   all_goals
    go_returns
    exact ⟨ret_bl HP.out.symm, bl⟩) : p := h
theorem rk25 {p : Prop} (h : p := by
  have e_tag : (tag == 0) = true := by rw [beq_iff_eq]; omega
  have n_tag : (tag != 0) = false := by rw [bne_eq_false_iff_eq]; omega
  have l_key40 : decide ((keys.length : Int) ≤ 40) = true := decide_eq_true (by omega)
  have g_key40 : decide (40 < (keys.length : Int)) = false := decide_eq_false (by omega)
  have e_itk : ((its.length : Int) == (keys.length : Int) + 1) = true := by rw [beq_iff_eq]; omega
  have e_itk2 : ((its.length : Int) == 1 + (keys.length : Int)) = true := by rw [beq_iff_eq]; omega
  have H_alli := hide h_alli
  have H_allk := hide h_allk
  have H_dis := hide h_dis
  clear h_tag h_itk h_alli h_allk h_dis
  go_enter Tryd.func33, Tryd.ntmps33
  have mkq := True.intro
  repeat (any_goals ((first | clear mkq | go_quiet (fail)); (try go_wp2_with (first | (go_at_call 34; (with_reducible refine (specAll_any (TStore.mk x0 x1 x2 x3 x4 x5 x6 x7 x8 x9 x10 x11 x12) its S S' q _ _ _ (StoreAt.bel bl HS.out) (Row.bel bl HRi.out)).mono ?_); rintro e wai ⟨rfl, hbai⟩; rw [H_alli.out]; (have hzai := hbai.sz; obtain ⟨hkai_0, hfai_0, hlai_0, hnai_0⟩ := hbai.lay (w.heap.size); obtain ⟨hkai_1, hfai_1, hlai_1, hnai_1⟩ := hbai.lay (q))) | (go_at_call 34; (with_reducible refine (specAll_any (TStore.mk x0 x1 x2 x3 x4 x5 x6 x7 x8 x9 x10 x11 x12) keys S S' q _ _ _ (StoreAt.bel bl HS.out) (Row.bel bl HRk.out)).mono ?_); rintro e wak ⟨rfl, hbak⟩; rw [H_allk.out]; (have hzak := hbak.sz; obtain ⟨hkak_0, hfak_0, hlak_0, hnak_0⟩ := hbak.lay (w.heap.size); obtain ⟨hkak_1, hfak_1, hlak_1, hnak_1⟩ := hbak.lay (q))) | (go_at_call 65; (with_reducible refine (specDist_any keys S' _ _ _ (Row.bel bl HRk.out)).mono ?_); rintro e wdk ⟨rfl, hbdk⟩; rw [H_dis.out]; (have hzdk := hbdk.sz; obtain ⟨hkdk_0, hfdk_0, hldk_0, hndk_0⟩ := hbdk.lay (w.heap.size); obtain ⟨hkdk_1, hfdk_1, hldk_1, hndk_1⟩ := hbdk.lay (q)))))))
  all_goals
   go_returns
   exact ⟨by rw [RR.out]; first | done | rfl, bl⟩) : p := h
theorem rk26 {p : Prop} (h : p := by
  have H_pat := hide h_pat
  clear h_key0 h_pat
  go_enter Tryd.func44, Tryd.ntmps44
  have mkq := True.intro
  repeat (any_goals ((first | clear mkq | go_quiet (fail)); (try go_wp2_with (first | (go_at_call 75; refine (implPat_any (TStore.mk x0 x1 x2 x3 x4 x5 x6 x7 x8 x9 x10 x11 x12) tag its S S' q _ _ _ (StoreAt.bel bl HS.out) (Row.bel bl HRi.out)).mono ?_; rintro e wp ⟨rfl, hbp⟩; rw [H_pat.out]; (have hzp := hbp.sz; obtain ⟨hkp_0, hfp_0, hlp_0, hnp_0⟩ := hbp.lay (w.heap.size); obtain ⟨hkp_1, hfp_1, hlp_1, hnp_1⟩ := hbp.lay (q)))))))
  all_goals
   go_returns
   exact ⟨by rw [RR.out]; first | done | rfl, bl⟩) : p := h
theorem rk27 {p : Prop} (h : p := by
  go_enter Tryd.func53, Tryd.ntmps53
  go_wp2_with (fail)
  repeat (any_goals (go_quiet (fail); (try go_wp2_with (fail))))
  go_region_held3 (fun w' => w'.cell? ⟨w.heap.size, 1, none⟩ = some (.int .i64 (m : Int)) ∧ w'.cell? ⟨w.heap.size, 2, none⟩ = some (.int .i64 (j : Int)) ∧ w'.cell? ⟨q, 2, none⟩ = some (.slice (some ⟨b1, o1, none⟩) x2.length c2) ∧ w'.cell? ⟨b1, o1 + m * 5 + 3, none⟩ = some (.slice (some ⟨b2, o2, none⟩) x1_3.length C1_3) ∧ w'.cell? ⟨b2, o2 + j * 6, none⟩ = some (.int .i64 x2_0) ∧ w'.cell? ⟨b2, o2 + j * 6 + 1, none⟩ = some (.int .i64 x2_1) ∧ w'.cell? ⟨b2, o2 + j * 6 + 2, none⟩ = some (.int .i64 x2_2) ∧ w'.cell? ⟨b2, o2 + j * 6 + 3, none⟩ = some (.string x2_3) ∧ w'.cell? ⟨b2, o2 + j * 6 + 4, none⟩ = some (.int .i64 x2_4) ∧ w'.cell? ⟨b2, o2 + j * 6 + 5, none⟩ = some (.int .i64 x2_5)) (first | exact ⟨(by first | (simp [*]; done) | (simp [go_sem, *]; done)), (by first | (simp [*]; done) | (simp [go_sem, *]; done)), (Bel.box (W := w) bl q hq _).trans e2, (Bel.box (W := w) bl b1 hl1 _).trans c1_3, (Bel.box (W := w) bl b2 hl2 _).trans c2_0, (Bel.box (W := w) bl b2 hl2 _).trans c2_1, (Bel.box (W := w) bl b2 hl2 _).trans c2_2, (Bel.box (W := w) bl b2 hl2 _).trans c2_3, (Bel.box (W := w) bl b2 hl2 _).trans c2_4, (Bel.box (W := w) bl b2 hl2 _).trans c2_5⟩) (fail)
  go_wp2_with (fail)
  repeat (any_goals (go_quiet (fail); (try go_wp2_with (fail))))
  all_goals
   refine bodyPost_ret (v := .tuple #[.agg #[.int .i64 x2_0, .int .i64 x2_1, .int .i64 x2_2, .string x2_3, .int .i64 x2_4, .int .i64 x2_5], .int .i64 0]) (by simp [results, Tryd.results53, go_sem] <;> rfl) rfl ⟨?_, bl⟩
   rw [RR.out]; first | done | rfl) : p := h
theorem rk28 {p : Prop} (h : p := by
  have e_key0 : ((keys.length : Int) == 0) = true := by rw [beq_iff_eq]; omega
  have n_key0 : ((keys.length : Int) != 0) = false := by rw [bne_eq_false_iff_eq]; omega
  have l_t0 : decide (0 ≤ tag) = true := decide_eq_true (by omega)
  have l_t1 : decide (tag < (x1.length : Int)) = true := decide_eq_true (by omega)
  have e_fl : ((its.length : Int) == (x4_1.length : Int)) = true := by rw [beq_iff_eq]; omega
  clear hx
  subst hm
  have H_alli := hide h_alli
  clear h_key0 h_t0 h_t1 h_fl h_alli
  go_enter Tryd.func33, Tryd.ntmps33
  go_wp2_with (fail)
  repeat (any_goals (go_quiet (fail); (try go_wp2_with (fail))))
  go_region_held3 (fun w' => w'.cell? ⟨w.heap.size, 0, none⟩ = some (.int .i64 5) ∧ w'.cell? ⟨w.heap.size, 1, none⟩ = some (.int .i64 (m : Int)) ∧ w'.cell? ⟨w.heap.size, 3, none⟩ = some (.slice Ai its.length ci) ∧ w'.cell? ⟨w.heap.size, 4, none⟩ = some (.slice Ak keys.length ck) ∧ w'.cell? ⟨q, 1, none⟩ = some (.slice (some ⟨b4, o4, none⟩) x1.length c1) ∧ w'.cell? ⟨b4, o4 + m * 3 + 1, none⟩ = some (.slice A4_1 x4_1.length C4_1)) (go_keep) (first | (go_at_call 34; (with_reducible refine (specAll_any (TStore.mk x0 x1 x2 x3 x4 x5 x6 x7 x8 x9 x10 x11 x12) its S S' q _ _ _ (StoreAt.bel bl HS.out) (Row.bel bl HRi.out)).mono ?_); rintro e wai ⟨rfl, hbai⟩; rw [H_alli.out]; (have hzai := hbai.sz; obtain ⟨hkai_0, hfai_0, hlai_0, hnai_0⟩ := hbai.lay (w.heap.size); obtain ⟨hkai_1, hfai_1, hlai_1, hnai_1⟩ := hbai.lay (q); obtain ⟨hkai_2, hfai_2, hlai_2, hnai_2⟩ := hbai.lay (b4))))
  all_goals
   (try go_wp2_with (fail))
  all_goals
   go_returns
   exact ⟨by rw [RR.out]; first | done | rfl, bl⟩) : p := h
theorem rk29 {p : Prop} (h : p := by
  have e_tag : (tag == 0) = true := by rw [beq_iff_eq]; omega
  have n_tag : (tag != 0) = false := by rw [bne_eq_false_iff_eq]; omega
  have e_key0 : ((keys.length : Int) == 0) = true := by rw [beq_iff_eq]; omega
  have n_key0 : ((keys.length : Int) != 0) = false := by rw [bne_eq_false_iff_eq]; omega
  have H_in1 := hide h_in1
  have H_in2 := hide h_in2
  clear h_tag h_key0 h_in1 h_in2
  go_enter Tryd.func33, Tryd.ntmps33
  have mkq := True.intro
  repeat (any_goals ((first | clear mkq | go_quiet (fail)); (try go_wp2_with (first | (go_at_call 50; (with_reducible refine (specIn_any (TStore.mk x0 x1 x2 x3 x4 x5 x6 x7 x8 x9 x10 x11 x12) ⟨5, x1_1, x1_2, x1_3, x1_4, x1_5⟩ S q _ (StoreAt.bel bl HS.out) ⟨g1_0, g1_1, g1_2, GT1.out, g1_4, g1_5⟩).mono ?_); rintro e wi1 ⟨rfl, hbi1⟩; rw [H_in1.out]; (have hzi1 := hbi1.sz; obtain ⟨hki1_0, hfi1_0, hli1_0, hni1_0⟩ := hbi1.lay (w.heap.size); obtain ⟨hki1_1, hfi1_1, hli1_1, hni1_1⟩ := hbi1.lay (q); obtain ⟨hki1_2, hfi1_2, hli1_2, hni1_2⟩ := hbi1.lay (b1))) | (go_at_call 67; (with_reducible refine (specData_any (TStore.mk x0 x1 x2 x3 x4 x5 x6 x7 x8 x9 x10 x11 x12) ⟨x2_0, x2_1, x2_2, x2_3, x2_4, x2_5⟩ S q _ (StoreAt.bel bl HS.out) ⟨g2_0, g2_1, g2_2, GT2.out, g2_4, g2_5⟩).mono ?_); rintro e wi2 ⟨rfl, hbi2⟩; rw [H_in2.out]; (have hzi2 := hbi2.sz; obtain ⟨hki2_0, hfi2_0, hli2_0, hni2_0⟩ := hbi2.lay (w.heap.size); obtain ⟨hki2_1, hfi2_1, hli2_1, hni2_1⟩ := hbi2.lay (q); obtain ⟨hki2_2, hfi2_2, hli2_2, hni2_2⟩ := hbi2.lay (b1)))))))
  all_goals
   go_returns
   exact ⟨by rw [RR.out]; first | done | rfl, bl⟩) : p := h
theorem rk30 {p : Prop} (h : p := by
  have HQ := hide (fun (wx : World) (hx : Bel w wx) => (by have := hasObject_q (TStore.mk x0 x1 x2 x3 x4 x5 x6 x7 x8 x9 x10 x11 x12) (m : Int) 1 S q wx (StoreAt.bel hx HSt.out); rw [HH.out] at this; exact this))
  go_enter Tryd.func52, Tryd.ntmps52
  go_wp2_with (first | (go_at_call 81; refine (implIsWellFormed_any _ _ hv).mono ?_; rintro e w1 ⟨rfl, hb1⟩; (have hz1 := hb1.sz; obtain ⟨hk1_0, hf1_0, hl1_0, hn1_0⟩ := hb1.lay (w.heap.size); obtain ⟨hk1_1, hf1_1, hl1_1, hn1_1⟩ := hb1.lay (q); obtain ⟨hk1_2, hf1_2, hl1_2, hn1_2⟩ := hb1.lay (b1)); rw [HW.out])) 
  go_quiet ((go_at_call 42; refine Calls.quiet_of (HQ.out _ bl)))
  go_wp2_with (fail)
  repeat (any_goals (go_quiet (fail); (try go_wp2_with (fail))))
  all_goals
   go_returns
   exact ⟨by rw [RR.out]; first | done | rfl, bl⟩) : p := h
theorem rk31 {p : Prop} (h : p := by
  have HQ := hide (fun (wx : World) (hx : Bel w wx) => (by have := hasObject_q (TStore.mk x0 x1 x2 x3 x4 x5 x6 x7 x8 x9 x10 x11 x12) (m : Int) 5 S q wx (StoreAt.bel hx HSt.out); rw [HH.out] at this; exact this))
  go_enter Tryd.func52, Tryd.ntmps52
  go_wp2_with (first | (go_at_call 81; refine (implIsWellFormed_any _ _ hv).mono ?_; rintro e w1 ⟨rfl, hb1⟩; (have hz1 := hb1.sz; obtain ⟨hk1_0, hf1_0, hl1_0, hn1_0⟩ := hb1.lay (w.heap.size); obtain ⟨hk1_1, hf1_1, hl1_1, hn1_1⟩ := hb1.lay (q); obtain ⟨hk1_2, hf1_2, hl1_2, hn1_2⟩ := hb1.lay (b1)); rw [HW.out])) 
  go_quiet ((go_at_call 42; refine Calls.quiet_of (HQ.out _ bl)))
  go_wp2_with (fail)
  repeat (any_goals (go_quiet (fail); (try go_wp2_with (fail))))
  all_goals
   go_returns
   exact ⟨by rw [RR.out]; first | done | rfl, bl⟩) : p := h
theorem rk32 {p : Prop} (h : p := by
  have e_tag : (tag == 0) = true := by rw [beq_iff_eq]; omega
  have n_tag : (tag != 0) = false := by rw [bne_eq_false_iff_eq]; omega
  have l_key40 : decide ((keys.length : Int) ≤ 40) = true := decide_eq_true (by omega)
  have g_key40 : decide (40 < (keys.length : Int)) = false := decide_eq_false (by omega)
  have e_it0 : ((its.length : Int) == 0) = true := by rw [beq_iff_eq]; omega
  have n_it0 : ((its.length : Int) != 0) = false := by rw [bne_eq_false_iff_eq]; omega
  have H_allk := hide h_allk
  have H_dis := hide h_dis
  clear h_tag h_key40 h_it0 h_allk h_dis
  go_enter Tryd.func33, Tryd.ntmps33
  have mkq := True.intro
  repeat (any_goals ((first | clear mkq | go_quiet (fail)); (try go_wp2_with (first | (go_at_call 34; (with_reducible refine (specAll_any (TStore.mk x0 x1 x2 x3 x4 x5 x6 x7 x8 x9 x10 x11 x12) keys S S' q _ _ _ (StoreAt.bel bl HS.out) (Row.bel bl HRk.out)).mono ?_); rintro e wak ⟨rfl, hbak⟩; rw [H_allk.out]; (have hzak := hbak.sz; obtain ⟨hkak_0, hfak_0, hlak_0, hnak_0⟩ := hbak.lay (w.heap.size); obtain ⟨hkak_1, hfak_1, hlak_1, hnak_1⟩ := hbak.lay (q))) | (go_at_call 65; (with_reducible refine (specDist_any keys S' _ _ _ (Row.bel bl HRk.out)).mono ?_); rintro e wdk ⟨rfl, hbdk⟩; rw [H_dis.out]; (have hzdk := hbdk.sz; obtain ⟨hkdk_0, hfdk_0, hldk_0, hndk_0⟩ := hbdk.lay (w.heap.size); obtain ⟨hkdk_1, hfdk_1, hldk_1, hndk_1⟩ := hbdk.lay (q)))))))
  all_goals
   go_returns
   exact ⟨by rw [RR.out]; first | done | rfl, bl⟩) : p := h
theorem rk33 {p : Prop} (h : p := by
  go_enter Tryd.func33, Tryd.ntmps33
  (go_wp2_with (fail))
  go_quiet (fail)
  go_upto_region 20 with (fail)
  simp only [List.append]
  (go_wp2_with (fail))
  all_goals
   go_returns
   exact ⟨by rw [RR.out]; first | done | rfl, bl⟩) : p := h
theorem rk34 {p : Prop} (h : p := by
  obtain ⟨x0, x1, x2, x3, x4, x5, x6, x7, x8, x9, x10, x11, x12⟩ := s
  have HSt := hide hs
  obtain ⟨A0, c0, A1, c1, A2, c2, A3, c3, A6, c6, A7, c7, A8, c8, hq, e0, e1, e2, e3, e4, e5, e6, e7, e8, e9, e10, e11, e12, g0, g1, g2, g3, g4, g5, g6, g7, g8, g10, g11, g12⟩ := StoreAt.cells hs
  have hlc0 := g0.1
  have hcm0 := g0.2.1
  simp only [List.length_map] at hlc0
  unfold maxLen at hcm0
  have hlc1 := g1.1
  have hcm1 := g1.2.1
  simp only [List.length_map] at hlc1
  unfold maxLen at hcm1
  have hlc2 := g2.1
  have hcm2 := g2.2.1
  simp only [List.length_map] at hlc2
  unfold maxLen at hcm2
  have hlc3 := g3.1
  have hcm3 := g3.2.1
  simp only [List.length_map] at hlc3
  unfold maxLen at hcm3
  have hlc6 := g6.1
  have hcm6 := g6.2.1
  simp only [List.length_map] at hlc6
  unfold maxLen at hcm6
  have hlc7 := g7.1
  have hcm7 := g7.2.1
  simp only [List.length_map] at hlc7
  unfold maxLen at hcm7
  have hlc8 := g8.1
  have hcm8 := g8.2.1
  simp only [List.length_map] at hlc8
  unfold maxLen at hcm8
  unfold maxLen at g4
  clear hs g0 g1 g2 g3 g6 g7 g8
  have hqn : ¬ q = w.heap.size := by omega
  go_enter Tryd.func54, Tryd.ntmps54
  go_wp2_with (fail)
  repeat (any_goals (go_quiet (fail); (try go_wp2_with (fail))))
  all_goals
  exact bodyPost_ret (v := .tuple #[zeroV.val, .int .i64 111]) (by simp [results, Tryd.results54, go_sem] <;> rfl) rfl ⟨rfl, bl⟩) : p := h
theorem rk35 {p : Prop} (h : p := by
  go_enter Tryd.func50, Tryd.ntmps50
  have mkq := True.intro
  repeat (any_goals ((first | clear mkq | go_quiet (fail)); (try go_wp2_with (first | (go_at_call 79; refine (specIsWellFormed_any _ _ hv).mono ?_; rintro e w1 ⟨rfl, hb1⟩; (have hz1 := hb1.sz; obtain ⟨hk1_0, hf1_0, hl1_0, hn1_0⟩ := hb1.lay (w.heap.size); obtain ⟨hk1_1, hf1_1, hl1_1, hn1_1⟩ := hb1.lay (q); obtain ⟨hk1_2, hf1_2, hl1_2, hn1_2⟩ := hb1.lay (b1)); rw [HW.out]) | (go_at_call 80; refine (specKind_any _ _).mono ?_; rintro e w2 ⟨rfl, rfl⟩; rw [kindI_13])))))
  all_goals
   go_returns
   exact ⟨by rw [RR.out]; first | done | rfl, bl⟩) : p := h
theorem rk36 {p : Prop} (h : p := by
  go_enter Tryd.func50, Tryd.ntmps50
  have mkq := True.intro
  repeat (any_goals ((first | clear mkq | go_quiet (fail)); (try go_wp2_with (first | (go_at_call 79; refine (specIsWellFormed_any _ _ hv).mono ?_; rintro e w1 ⟨rfl, hb1⟩; (have hz1 := hb1.sz; obtain ⟨hk1_0, hf1_0, hl1_0, hn1_0⟩ := hb1.lay (w.heap.size); obtain ⟨hk1_1, hf1_1, hl1_1, hn1_1⟩ := hb1.lay (q); obtain ⟨hk1_2, hf1_2, hl1_2, hn1_2⟩ := hb1.lay (b1)); rw [HW.out]) | (go_at_call 80; refine (specKind_any _ _).mono ?_; rintro e w2 ⟨rfl, rfl⟩; rw [kindI_16])))))
  all_goals
   go_returns
   exact ⟨by rw [RR.out]; first | done | rfl, bl⟩) : p := h
theorem rk37 {p : Prop} (h : p := by
  clear hw
  go_enter Tryd.func50, Tryd.ntmps50
  have mkq := True.intro
  repeat (any_goals ((first | clear mkq | go_quiet (fail)); (try go_wp2_with (first | (go_at_call 79; refine (specIsWellFormed_any _ _ hv).mono ?_; rintro e w1 ⟨rfl, hb1⟩; (have hz1 := hb1.sz; obtain ⟨hk1_0, hf1_0, hl1_0, hn1_0⟩ := hb1.lay (w.heap.size); obtain ⟨hk1_1, hf1_1, hl1_1, hn1_1⟩ := hb1.lay (q)); rw [HW.out]) | (go_at_call 80; refine (specKind_any _ _).mono ?_; rintro e w2 ⟨rfl, rfl⟩; rw [kindI_10])))))
  all_goals
   go_returns
   exact ⟨by rw [RR.out]; first | done | rfl, bl⟩) : p := h
theorem rk38 {p : Prop} (h : p := by
  clear hw
  go_enter Tryd.func50, Tryd.ntmps50
  have mkq := True.intro
  repeat (any_goals ((first | clear mkq | go_quiet (fail)); (try go_wp2_with (first | (go_at_call 79; refine (specIsWellFormed_any _ _ hv).mono ?_; rintro e w1 ⟨rfl, hb1⟩; (have hz1 := hb1.sz; obtain ⟨hk1_0, hf1_0, hl1_0, hn1_0⟩ := hb1.lay (w.heap.size); obtain ⟨hk1_1, hf1_1, hl1_1, hn1_1⟩ := hb1.lay (q)); rw [HW.out]) | (go_at_call 80; refine (specKind_any _ _).mono ?_; rintro e w2 ⟨rfl, rfl⟩; rw [kindI_14])))))
  all_goals
   go_returns
   exact ⟨by rw [RR.out]; first | done | rfl, bl⟩) : p := h
theorem rk39 {p : Prop} (h : p := by
  clear hw
  go_enter Tryd.func50, Tryd.ntmps50
  have mkq := True.intro
  repeat (any_goals ((first | clear mkq | go_quiet (fail)); (try go_wp2_with (first | (go_at_call 79; refine (specIsWellFormed_any _ _ hv).mono ?_; rintro e w1 ⟨rfl, hb1⟩; (have hz1 := hb1.sz; obtain ⟨hk1_0, hf1_0, hl1_0, hn1_0⟩ := hb1.lay (w.heap.size); obtain ⟨hk1_1, hf1_1, hl1_1, hn1_1⟩ := hb1.lay (q)); rw [HW.out]) | (go_at_call 80; refine (specKind_any _ _).mono ?_; rintro e w2 ⟨rfl, rfl⟩; rw [kindI_0])))))
  all_goals
   go_returns
   exact ⟨by rw [RR.out]; first | done | rfl, bl⟩) : p := h
theorem rk40 {p : Prop} (h : p := by
  clear hw
  go_enter Tryd.func50, Tryd.ntmps50
  have mkq := True.intro
  repeat (any_goals ((first | clear mkq | go_quiet (fail)); (try go_wp2_with (first | (go_at_call 79; refine (specIsWellFormed_any _ _ hv).mono ?_; rintro e w1 ⟨rfl, hb1⟩; (have hz1 := hb1.sz; obtain ⟨hk1_0, hf1_0, hl1_0, hn1_0⟩ := hb1.lay (w.heap.size); obtain ⟨hk1_1, hf1_1, hl1_1, hn1_1⟩ := hb1.lay (q)); rw [HW.out]) | (go_at_call 80; refine (specKind_any _ _).mono ?_; rintro e w2 ⟨rfl, rfl⟩; rw [kindI_8])))))
  all_goals
   go_returns
   exact ⟨by rw [RR.out]; first | done | rfl, bl⟩) : p := h
theorem rk41 {p : Prop} (h : p := by
  clear hw
  go_enter Tryd.func50, Tryd.ntmps50
  have mkq := True.intro
  repeat (any_goals ((first | clear mkq | go_quiet (fail)); (try go_wp2_with (first | (go_at_call 79; refine (specIsWellFormed_any _ _ hv).mono ?_; rintro e w1 ⟨rfl, hb1⟩; (have hz1 := hb1.sz; obtain ⟨hk1_0, hf1_0, hl1_0, hn1_0⟩ := hb1.lay (w.heap.size); obtain ⟨hk1_1, hf1_1, hl1_1, hn1_1⟩ := hb1.lay (q)); rw [HW.out]) | (go_at_call 80; refine (specKind_any _ _).mono ?_; rintro e w2 ⟨rfl, rfl⟩; rw [kindI_9])))))
  all_goals
   go_returns
   exact ⟨by rw [RR.out]; first | done | rfl, bl⟩) : p := h
theorem rk42 {p : Prop} (h : p := by
  go_enter Tryd.func16, Tryd.ntmps16
  have mkq := True.intro
  repeat (any_goals ((first | clear mkq | go_quiet (fail)); (try go_wp2_with (first | (go_at_call 13; refine (specValueIn_any (TStore.mk x0 x1 x2 x3 x4 x5 x6 x7 x8 x9 x10 x11 x12) ⟨k0, n0, i0, t0, lo0, hi0⟩ S _ _ (Dat.HoldVals.bel bl HV.out) HX.out).mono ?_; rintro e w1 ⟨rfl, hb1⟩; rw [HB.out]; (have hz1 := hb1.sz; obtain ⟨hk1_0, hf1_0, hl1_0, hn1_0⟩ := hb1.lay (w.heap.size); obtain ⟨hk1_1, hf1_1, hl1_1, hn1_1⟩ := hb1.lay (w.heap.size + 1); obtain ⟨hk1_2, hf1_2, hl1_2, hn1_2⟩ := hb1.lay (w.heap.size + 1 + 1)); have Z1 := Z6.on Z6.new hb1; (try simp only [World.size_alloc] at Z1))))))
  all_goals
   refine gen_ret6 (Z6.on Z1 bl) fun wz d0 d1 d2 d3 d4 d5 hbz => ?_
   refine bodyPost_ret (v := .tuple #[.agg #[.int .i64 0, .int .i64 0, .int .i64 0, .string ByteArray.empty, .int .i64 0, .int .i64 0], .int .i64 111]) (by simp [results, Tryd.results16, go_sem, d0, d1, d2, d3, d4, d5] <;> rfl) rfl ⟨?_, hbz _ bl (by omega)⟩
   rw [RR.out]; first | done | rfl) : p := h
theorem rk43 {p : Prop} (h : p := by
  clear hl
  go_enter Tryd.func66, Tryd.ntmps66
  have mkq := True.intro
  repeat (any_goals ((first | clear mkq | go_quiet (fail)); (try go_wp2_with (go_at_call 91; refine (patItems_any tag _).mono ?_; rintro e w1 ⟨AK, cK, rfl, hRK, hb1⟩; (try simp only [List.length_map]); clear hRK; (have hz1 := hb1.sz; obtain ⟨hk1_0, hf1_0, hl1_0, hn1_0⟩ := hb1.lay (w.heap.size); obtain ⟨hk1_1, hf1_1, hl1_1, hn1_1⟩ := hb1.lay (q))))))
  all_goals
   go_returns
   exact ⟨by rw [RR.out]; first | done | rfl, bl⟩) : p := h
theorem rk44 {p : Prop} (h : p := by
  have HI := hide hi
  clear hb hi
  go_enter Tryd.func15, Tryd.ntmps15
  have mkq := True.intro
  repeat (any_goals ((first | clear mkq | go_quiet (fail)); (try go_wp2_with (first | (go_at_call 10; refine (implValid_any (TStore.mk x0 x1 x2 x3 x4 x5 x6 x7 x8 x9 x10 x11 x12) S _ _ (HT.out.on bl) (Dat.HoldVals.bel bl HV.out)).mono ?_; rintro e w1 ⟨rfl, hb1⟩; rw [HB.out]; (have hz1 := hb1.sz; obtain ⟨hk1_0, hf1_0, hl1_0, hn1_0⟩ := hb1.lay (w.heap.size); obtain ⟨hk1_1, hf1_1, hl1_1, hn1_1⟩ := hb1.lay (w.heap.size + 1))) | (go_at_call 52; refine (implIn_any (TStore.mk x0 x1 x2 x3 x4 x5 x6 x7 x8 x9 x10 x11 x12) ⟨k0, n0, i0, t0, lo0, hi0⟩ S w.heap.size _ (StoreAt.bel bl HS1.out) HX.out).mono ?_; rintro e w2 ⟨rfl, hb2⟩; rw [HI.out])))))
  all_goals
   go_returns
   exact ⟨by rw [RR.out]; first | done | rfl, bl⟩) : p := h
theorem rk45 {p : Prop} (h : p := by
  have HI := hide hi
  clear hb hi
  go_enter Tryd.func13, Tryd.ntmps13
  have mkq := True.intro
  repeat (any_goals ((first | clear mkq | go_quiet (fail)); (try go_wp2_with (first | (go_at_call 8; refine (specValid_any (TStore.mk x0 x1 x2 x3 x4 x5 x6 x7 x8 x9 x10 x11 x12) S _ _ (Dat.HoldVals.bel bl HV.out)).mono ?_; rintro e w1 ⟨rfl, hb1⟩; rw [HB.out]; (have hz1 := hb1.sz; obtain ⟨hk1_0, hf1_0, hl1_0, hn1_0⟩ := hb1.lay (w.heap.size); obtain ⟨hk1_1, hf1_1, hl1_1, hn1_1⟩ := hb1.lay (w.heap.size + 1))) | (go_at_call 50; refine (specIn_any (TStore.mk x0 x1 x2 x3 x4 x5 x6 x7 x8 x9 x10 x11 x12) ⟨k0, n0, i0, t0, lo0, hi0⟩ S w.heap.size _ (StoreAt.bel bl HS1.out) HX.out).mono ?_; rintro e w2 ⟨rfl, hb2⟩; rw [HI.out])))))
  all_goals
   go_returns
   exact ⟨by rw [RR.out]; first | done | rfl, bl⟩) : p := h
theorem rk46 {p : Prop} (h : p := by
  have e_key0 : ((keys.length : Int) == 0) = true := by rw [beq_iff_eq]; omega
  have n_key0 : ((keys.length : Int) != 0) = false := by rw [bne_eq_false_iff_eq]; omega
  have H_pat := hide h_pat
  clear h_key0 h_pat
  go_enter Tryd.func33, Tryd.ntmps33
  have mkq := True.intro
  repeat (any_goals ((first | clear mkq | go_quiet (fail)); (try go_wp2_with (first | (go_at_call 66; refine (specPat_any (TStore.mk x0 x1 x2 x3 x4 x5 x6 x7 x8 x9 x10 x11 x12) 7 tag ser its keys S S' q _ _ _ _ _ (StoreAt.bel bl HS.out) (Row.bel bl HRi.out)).mono ?_; rintro e wp ⟨rfl, hbp⟩; rw [H_pat.out]; (have hzp := hbp.sz; obtain ⟨hkp_0, hfp_0, hlp_0, hnp_0⟩ := hbp.lay (w.heap.size); obtain ⟨hkp_1, hfp_1, hlp_1, hnp_1⟩ := hbp.lay (q)))))))
  all_goals
   go_returns
   exact ⟨by rw [RR.out]; first | done | rfl, bl⟩) : p := h
theorem rk47 {p : Prop} (h : p := by
  go_enter Tryd.func42, Tryd.ntmps42
  go_wp2_with (fail)
  repeat (any_goals (go_quiet (fail); (try go_wp2_with (fail))))
  all_goals
   go_returns
   first | exact ⟨by rw [RR.out]; first | done | rfl, _, rfl⟩ | exact ⟨by rw [RR.out]; first | done | rfl, 0, rfl⟩) : p := h
theorem rk48 {p : Prop} (h : p := by
  go_enter Tryd.func50, Tryd.ntmps50
  have mkq := True.intro
  repeat (any_goals ((first | clear mkq | go_quiet (fail)); (try go_wp2_with (first | (go_at_call 79; refine (specIsWellFormed_any _ _ hv).mono ?_; rintro e w1 ⟨rfl, hb1⟩; (have hz1 := hb1.sz; obtain ⟨hk1_0, hf1_0, hl1_0, hn1_0⟩ := hb1.lay (w.heap.size); obtain ⟨hk1_1, hf1_1, hl1_1, hn1_1⟩ := hb1.lay (q); obtain ⟨hk1_2, hf1_2, hl1_2, hn1_2⟩ := hb1.lay (b1)); rw [HW.out]) | (go_at_call 80; refine (specKind_any _ _).mono ?_; rintro e w2 ⟨rfl, rfl⟩; rw [kindI_11])))))
  all_goals
   go_returns
   exact ⟨by rw [RR.out]; first | done | rfl, bl⟩) : p := h
theorem rk49 {p : Prop} (h : p := by
  go_enter Tryd.func50, Tryd.ntmps50
  have mkq := True.intro
  repeat (any_goals ((first | clear mkq | go_quiet (fail)); (try go_wp2_with (first | (go_at_call 79; refine (specIsWellFormed_any _ _ hv).mono ?_; rintro e w1 ⟨rfl, hb1⟩; (have hz1 := hb1.sz; obtain ⟨hk1_0, hf1_0, hl1_0, hn1_0⟩ := hb1.lay (w.heap.size); obtain ⟨hk1_1, hf1_1, hl1_1, hn1_1⟩ := hb1.lay (q); obtain ⟨hk1_2, hf1_2, hl1_2, hn1_2⟩ := hb1.lay (b1)); rw [HW.out]) | (go_at_call 80; refine (specKind_any _ _).mono ?_; rintro e w2 ⟨rfl, rfl⟩; rw [kindI_12])))))
  all_goals
   go_returns
   exact ⟨by rw [RR.out]; first | done | rfl, bl⟩) : p := h
theorem rk50 {p : Prop} (h : p := by
  go_enter Tryd.func50, Tryd.ntmps50
  have mkq := True.intro
  repeat (any_goals ((first | clear mkq | go_quiet (fail)); (try go_wp2_with (first | (go_at_call 79; refine (specIsWellFormed_any _ _ hv).mono ?_; rintro e w1 ⟨rfl, hb1⟩; (have hz1 := hb1.sz; obtain ⟨hk1_0, hf1_0, hl1_0, hn1_0⟩ := hb1.lay (w.heap.size); obtain ⟨hk1_1, hf1_1, hl1_1, hn1_1⟩ := hb1.lay (q); obtain ⟨hk1_2, hf1_2, hl1_2, hn1_2⟩ := hb1.lay (b1)); rw [HW.out]) | (go_at_call 80; refine (specKind_any _ _).mono ?_; rintro e w2 ⟨rfl, rfl⟩; rw [kindI_15])))))
  all_goals
   go_returns
   exact ⟨by rw [RR.out]; first | done | rfl, bl⟩) : p := h
theorem rk51 {p : Prop} (h : p := by
  go_enter Tryd.func50, Tryd.ntmps50
  have mkq := True.intro
  repeat (any_goals ((first | clear mkq | go_quiet (fail)); (try go_wp2_with (first | (go_at_call 79; refine (specIsWellFormed_any _ _ hv).mono ?_; rintro e w1 ⟨rfl, hb1⟩; (have hz1 := hb1.sz; obtain ⟨hk1_0, hf1_0, hl1_0, hn1_0⟩ := hb1.lay (w.heap.size); obtain ⟨hk1_1, hf1_1, hl1_1, hn1_1⟩ := hb1.lay (q); obtain ⟨hk1_2, hf1_2, hl1_2, hn1_2⟩ := hb1.lay (b1)); rw [HW.out]) | (go_at_call 80; refine (specKind_any _ _).mono ?_; rintro e w2 ⟨rfl, rfl⟩; rw [kindI_17])))))
  all_goals
   go_returns
   exact ⟨by rw [RR.out]; first | done | rfl, bl⟩) : p := h
theorem rk52 {p : Prop} (h : p := by
  go_enter Tryd.func50, Tryd.ntmps50
  have mkq := True.intro
  repeat (any_goals ((first | clear mkq | go_quiet (fail)); (try go_wp2_with (first | (go_at_call 79; refine (specIsWellFormed_any _ _ hv).mono ?_; rintro e w1 ⟨rfl, hb1⟩; (have hz1 := hb1.sz; obtain ⟨hk1_0, hf1_0, hl1_0, hn1_0⟩ := hb1.lay (w.heap.size); obtain ⟨hk1_1, hf1_1, hl1_1, hn1_1⟩ := hb1.lay (q); obtain ⟨hk1_2, hf1_2, hl1_2, hn1_2⟩ := hb1.lay (b1)); rw [HW.out]) | (go_at_call 80; refine (specKind_any _ _).mono ?_; rintro e w2 ⟨rfl, rfl⟩; rw [kindI_19])))))
  all_goals
   go_returns
   exact ⟨by rw [RR.out]; first | done | rfl, bl⟩) : p := h
theorem rk53 {p : Prop} (h : p := by
  go_enter Tryd.func50, Tryd.ntmps50
  have mkq := True.intro
  repeat (any_goals ((first | clear mkq | go_quiet (fail)); (try go_wp2_with (first | (go_at_call 79; refine (specIsWellFormed_any _ _ hv).mono ?_; rintro e w1 ⟨rfl, hb1⟩; (have hz1 := hb1.sz; obtain ⟨hk1_0, hf1_0, hl1_0, hn1_0⟩ := hb1.lay (w.heap.size); obtain ⟨hk1_1, hf1_1, hl1_1, hn1_1⟩ := hb1.lay (q); obtain ⟨hk1_2, hf1_2, hl1_2, hn1_2⟩ := hb1.lay (b1)); rw [HW.out]) | (go_at_call 80; refine (specKind_any _ _).mono ?_; rintro e w2 ⟨rfl, rfl⟩; rw [kindI_20])))))
  all_goals
   go_returns
   exact ⟨by rw [RR.out]; first | done | rfl, bl⟩) : p := h
theorem rk54 {p : Prop} (h : p := by
  go_enter Tryd.func50, Tryd.ntmps50
  have mkq := True.intro
  repeat (any_goals ((first | clear mkq | go_quiet (fail)); (try go_wp2_with (first | (go_at_call 79; refine (specIsWellFormed_any _ _ hv).mono ?_; rintro e w1 ⟨rfl, hb1⟩; (have hz1 := hb1.sz; obtain ⟨hk1_0, hf1_0, hl1_0, hn1_0⟩ := hb1.lay (w.heap.size); obtain ⟨hk1_1, hf1_1, hl1_1, hn1_1⟩ := hb1.lay (q); obtain ⟨hk1_2, hf1_2, hl1_2, hn1_2⟩ := hb1.lay (b1)); rw [HW.out]) | (go_at_call 80; refine (specKind_any _ _).mono ?_; rintro e w2 ⟨rfl, rfl⟩; rw [kindI_4])))))
  all_goals
   go_returns
   exact ⟨by rw [RR.out]; first | done | rfl, bl⟩) : p := h
theorem rk55 {p : Prop} (h : p := by
  go_enter Tryd.func50, Tryd.ntmps50
  have mkq := True.intro
  repeat (any_goals ((first | clear mkq | go_quiet (fail)); (try go_wp2_with (first | (go_at_call 79; refine (specIsWellFormed_any _ _ hv).mono ?_; rintro e w1 ⟨rfl, hb1⟩; (have hz1 := hb1.sz; obtain ⟨hk1_0, hf1_0, hl1_0, hn1_0⟩ := hb1.lay (w.heap.size); obtain ⟨hk1_1, hf1_1, hl1_1, hn1_1⟩ := hb1.lay (q); obtain ⟨hk1_2, hf1_2, hl1_2, hn1_2⟩ := hb1.lay (b1)); rw [HW.out]) | (go_at_call 80; refine (specKind_any _ _).mono ?_; rintro e w2 ⟨rfl, rfl⟩; rw [kindI_5])))))
  all_goals
   go_returns
   exact ⟨by rw [RR.out]; first | done | rfl, bl⟩) : p := h
theorem rk56 {p : Prop} (h : p := by
  go_enter Tryd.func50, Tryd.ntmps50
  have mkq := True.intro
  repeat (any_goals ((first | clear mkq | go_quiet (fail)); (try go_wp2_with (first | (go_at_call 79; refine (specIsWellFormed_any _ _ hv).mono ?_; rintro e w1 ⟨rfl, hb1⟩; (have hz1 := hb1.sz; obtain ⟨hk1_0, hf1_0, hl1_0, hn1_0⟩ := hb1.lay (w.heap.size); obtain ⟨hk1_1, hf1_1, hl1_1, hn1_1⟩ := hb1.lay (q); obtain ⟨hk1_2, hf1_2, hl1_2, hn1_2⟩ := hb1.lay (b1)); rw [HW.out]) | (go_at_call 80; refine (specKind_any _ _).mono ?_; rintro e w2 ⟨rfl, rfl⟩; rw [kindI_6])))))
  all_goals
   go_returns
   exact ⟨by rw [RR.out]; first | done | rfl, bl⟩) : p := h
theorem rk57 {p : Prop} (h : p := by
  go_enter Tryd.func50, Tryd.ntmps50
  have mkq := True.intro
  repeat (any_goals ((first | clear mkq | go_quiet (fail)); (try go_wp2_with (first | (go_at_call 79; refine (specIsWellFormed_any _ _ hv).mono ?_; rintro e w1 ⟨rfl, hb1⟩; (have hz1 := hb1.sz; obtain ⟨hk1_0, hf1_0, hl1_0, hn1_0⟩ := hb1.lay (w.heap.size); obtain ⟨hk1_1, hf1_1, hl1_1, hn1_1⟩ := hb1.lay (q); obtain ⟨hk1_2, hf1_2, hl1_2, hn1_2⟩ := hb1.lay (b1)); rw [HW.out]) | (go_at_call 80; refine (specKind_any _ _).mono ?_; rintro e w2 ⟨rfl, rfl⟩; rw [kindI_7])))))
  all_goals
   go_returns
   exact ⟨by rw [RR.out]; first | done | rfl, bl⟩) : p := h
theorem rk58 {p : Prop} (h : p := by
  clear hw
  go_enter Tryd.func50, Tryd.ntmps50
  have mkq := True.intro
  repeat (any_goals ((first | clear mkq | go_quiet (fail)); (try go_wp2_with (first | (go_at_call 79; refine (specIsWellFormed_any _ _ hv).mono ?_; rintro e w1 ⟨rfl, hb1⟩; (have hz1 := hb1.sz; obtain ⟨hk1_0, hf1_0, hl1_0, hn1_0⟩ := hb1.lay (w.heap.size); obtain ⟨hk1_1, hf1_1, hl1_1, hn1_1⟩ := hb1.lay (q)); rw [HW.out]) | (go_at_call 80; refine (specKind_any _ _).mono ?_; rintro e w2 ⟨rfl, rfl⟩; rw [kindI_18])))))
  all_goals
   go_returns
   exact ⟨by rw [RR.out]; first | done | rfl, bl⟩) : p := h
theorem rk59 {p : Prop} (h : p := by
  clear hw
  go_enter Tryd.func50, Tryd.ntmps50
  have mkq := True.intro
  repeat (any_goals ((first | clear mkq | go_quiet (fail)); (try go_wp2_with (first | (go_at_call 79; refine (specIsWellFormed_any _ _ hv).mono ?_; rintro e w1 ⟨rfl, hb1⟩; (have hz1 := hb1.sz; obtain ⟨hk1_0, hf1_0, hl1_0, hn1_0⟩ := hb1.lay (w.heap.size); obtain ⟨hk1_1, hf1_1, hl1_1, hn1_1⟩ := hb1.lay (q)); rw [HW.out]) | (go_at_call 80; refine (specKind_any _ _).mono ?_; rintro e w2 ⟨rfl, rfl⟩; rw [kindI_1])))))
  all_goals
   go_returns
   exact ⟨by rw [RR.out]; first | done | rfl, bl⟩) : p := h
theorem rk60 {p : Prop} (h : p := by
  clear hw
  go_enter Tryd.func50, Tryd.ntmps50
  have mkq := True.intro
  repeat (any_goals ((first | clear mkq | go_quiet (fail)); (try go_wp2_with (first | (go_at_call 79; refine (specIsWellFormed_any _ _ hv).mono ?_; rintro e w1 ⟨rfl, hb1⟩; (have hz1 := hb1.sz; obtain ⟨hk1_0, hf1_0, hl1_0, hn1_0⟩ := hb1.lay (w.heap.size); obtain ⟨hk1_1, hf1_1, hl1_1, hn1_1⟩ := hb1.lay (q)); rw [HW.out]) | (go_at_call 80; refine (specKind_any _ _).mono ?_; rintro e w2 ⟨rfl, rfl⟩; rw [kindI_2])))))
  all_goals
   go_returns
   exact ⟨by rw [RR.out]; first | done | rfl, bl⟩) : p := h
theorem rk61 {p : Prop} (h : p := by
  clear hw
  go_enter Tryd.func50, Tryd.ntmps50
  have mkq := True.intro
  repeat (any_goals ((first | clear mkq | go_quiet (fail)); (try go_wp2_with (first | (go_at_call 79; refine (specIsWellFormed_any _ _ hv).mono ?_; rintro e w1 ⟨rfl, hb1⟩; (have hz1 := hb1.sz; obtain ⟨hk1_0, hf1_0, hl1_0, hn1_0⟩ := hb1.lay (w.heap.size); obtain ⟨hk1_1, hf1_1, hl1_1, hn1_1⟩ := hb1.lay (q)); rw [HW.out]) | (go_at_call 80; refine (specKind_any _ _).mono ?_; rintro e w2 ⟨rfl, rfl⟩; rw [kindI_3])))))
  all_goals
   go_returns
   exact ⟨by rw [RR.out]; first | done | rfl, bl⟩) : p := h
theorem rk62 {p : Prop} (h : p := by
  go_enter Tryd.func50, Tryd.ntmps50
  have mkq := True.intro
  repeat (any_goals ((first | clear mkq | go_quiet (fail)); (try go_wp2_with (first | (go_at_call 79; refine (specIsWellFormed_any _ _ hv).mono ?_; rintro e w1 ⟨rfl, hb1⟩; (have hz1 := hb1.sz; obtain ⟨hk1_0, hf1_0, hl1_0, hn1_0⟩ := hb1.lay (w.heap.size); obtain ⟨hk1_1, hf1_1, hl1_1, hn1_1⟩ := hb1.lay (q)); rw [HW.out]) | (go_at_call 80; refine (specKind_any _ _).mono ?_; rintro e w2 ⟨rfl, rfl⟩; rw [kindI_11])))))
  all_goals
   go_returns
   exact ⟨by rw [RR.out]; first | done | rfl, bl⟩) : p := h
theorem rk63 {p : Prop} (h : p := by
  go_enter Tryd.func50, Tryd.ntmps50
  have mkq := True.intro
  repeat (any_goals ((first | clear mkq | go_quiet (fail)); (try go_wp2_with (first | (go_at_call 79; refine (specIsWellFormed_any _ _ hv).mono ?_; rintro e w1 ⟨rfl, hb1⟩; (have hz1 := hb1.sz; obtain ⟨hk1_0, hf1_0, hl1_0, hn1_0⟩ := hb1.lay (w.heap.size); obtain ⟨hk1_1, hf1_1, hl1_1, hn1_1⟩ := hb1.lay (q)); rw [HW.out]) | (go_at_call 80; refine (specKind_any _ _).mono ?_; rintro e w2 ⟨rfl, rfl⟩; rw [kindI_12])))))
  all_goals
   go_returns
   exact ⟨by rw [RR.out]; first | done | rfl, bl⟩) : p := h
theorem rk64 {p : Prop} (h : p := by
  go_enter Tryd.func50, Tryd.ntmps50
  have mkq := True.intro
  repeat (any_goals ((first | clear mkq | go_quiet (fail)); (try go_wp2_with (first | (go_at_call 79; refine (specIsWellFormed_any _ _ hv).mono ?_; rintro e w1 ⟨rfl, hb1⟩; (have hz1 := hb1.sz; obtain ⟨hk1_0, hf1_0, hl1_0, hn1_0⟩ := hb1.lay (w.heap.size); obtain ⟨hk1_1, hf1_1, hl1_1, hn1_1⟩ := hb1.lay (q)); rw [HW.out]) | (go_at_call 80; refine (specKind_any _ _).mono ?_; rintro e w2 ⟨rfl, rfl⟩; rw [kindI_13])))))
  all_goals
   go_returns
   exact ⟨by rw [RR.out]; first | done | rfl, bl⟩) : p := h
theorem rk65 {p : Prop} (h : p := by
  go_enter Tryd.func50, Tryd.ntmps50
  have mkq := True.intro
  repeat (any_goals ((first | clear mkq | go_quiet (fail)); (try go_wp2_with (first | (go_at_call 79; refine (specIsWellFormed_any _ _ hv).mono ?_; rintro e w1 ⟨rfl, hb1⟩; (have hz1 := hb1.sz; obtain ⟨hk1_0, hf1_0, hl1_0, hn1_0⟩ := hb1.lay (w.heap.size); obtain ⟨hk1_1, hf1_1, hl1_1, hn1_1⟩ := hb1.lay (q)); rw [HW.out]) | (go_at_call 80; refine (specKind_any _ _).mono ?_; rintro e w2 ⟨rfl, rfl⟩; rw [kindI_15])))))
  all_goals
   go_returns
   exact ⟨by rw [RR.out]; first | done | rfl, bl⟩) : p := h
theorem rk66 {p : Prop} (h : p := by
  go_enter Tryd.func50, Tryd.ntmps50
  have mkq := True.intro
  repeat (any_goals ((first | clear mkq | go_quiet (fail)); (try go_wp2_with (first | (go_at_call 79; refine (specIsWellFormed_any _ _ hv).mono ?_; rintro e w1 ⟨rfl, hb1⟩; (have hz1 := hb1.sz; obtain ⟨hk1_0, hf1_0, hl1_0, hn1_0⟩ := hb1.lay (w.heap.size); obtain ⟨hk1_1, hf1_1, hl1_1, hn1_1⟩ := hb1.lay (q)); rw [HW.out]) | (go_at_call 80; refine (specKind_any _ _).mono ?_; rintro e w2 ⟨rfl, rfl⟩; rw [kindI_16])))))
  all_goals
   go_returns
   exact ⟨by rw [RR.out]; first | done | rfl, bl⟩) : p := h
theorem rk67 {p : Prop} (h : p := by
  go_enter Tryd.func50, Tryd.ntmps50
  have mkq := True.intro
  repeat (any_goals ((first | clear mkq | go_quiet (fail)); (try go_wp2_with (first | (go_at_call 79; refine (specIsWellFormed_any _ _ hv).mono ?_; rintro e w1 ⟨rfl, hb1⟩; (have hz1 := hb1.sz; obtain ⟨hk1_0, hf1_0, hl1_0, hn1_0⟩ := hb1.lay (w.heap.size); obtain ⟨hk1_1, hf1_1, hl1_1, hn1_1⟩ := hb1.lay (q)); rw [HW.out]) | (go_at_call 80; refine (specKind_any _ _).mono ?_; rintro e w2 ⟨rfl, rfl⟩; rw [kindI_17])))))
  all_goals
   go_returns
   exact ⟨by rw [RR.out]; first | done | rfl, bl⟩) : p := h
theorem rk68 {p : Prop} (h : p := by
  go_enter Tryd.func50, Tryd.ntmps50
  have mkq := True.intro
  repeat (any_goals ((first | clear mkq | go_quiet (fail)); (try go_wp2_with (first | (go_at_call 79; refine (specIsWellFormed_any _ _ hv).mono ?_; rintro e w1 ⟨rfl, hb1⟩; (have hz1 := hb1.sz; obtain ⟨hk1_0, hf1_0, hl1_0, hn1_0⟩ := hb1.lay (w.heap.size); obtain ⟨hk1_1, hf1_1, hl1_1, hn1_1⟩ := hb1.lay (q)); rw [HW.out]) | (go_at_call 80; refine (specKind_any _ _).mono ?_; rintro e w2 ⟨rfl, rfl⟩; rw [kindI_19])))))
  all_goals
   go_returns
   exact ⟨by rw [RR.out]; first | done | rfl, bl⟩) : p := h
theorem rk69 {p : Prop} (h : p := by
  go_enter Tryd.func50, Tryd.ntmps50
  have mkq := True.intro
  repeat (any_goals ((first | clear mkq | go_quiet (fail)); (try go_wp2_with (first | (go_at_call 79; refine (specIsWellFormed_any _ _ hv).mono ?_; rintro e w1 ⟨rfl, hb1⟩; (have hz1 := hb1.sz; obtain ⟨hk1_0, hf1_0, hl1_0, hn1_0⟩ := hb1.lay (w.heap.size); obtain ⟨hk1_1, hf1_1, hl1_1, hn1_1⟩ := hb1.lay (q)); rw [HW.out]) | (go_at_call 80; refine (specKind_any _ _).mono ?_; rintro e w2 ⟨rfl, rfl⟩; rw [kindI_20])))))
  all_goals
   go_returns
   exact ⟨by rw [RR.out]; first | done | rfl, bl⟩) : p := h
theorem rk70 {p : Prop} (h : p := by
  go_enter Tryd.func50, Tryd.ntmps50
  have mkq := True.intro
  repeat (any_goals ((first | clear mkq | go_quiet (fail)); (try go_wp2_with (first | (go_at_call 79; refine (specIsWellFormed_any _ _ hv).mono ?_; rintro e w1 ⟨rfl, hb1⟩; (have hz1 := hb1.sz; obtain ⟨hk1_0, hf1_0, hl1_0, hn1_0⟩ := hb1.lay (w.heap.size); obtain ⟨hk1_1, hf1_1, hl1_1, hn1_1⟩ := hb1.lay (q)); rw [HW.out]) | (go_at_call 80; refine (specKind_any _ _).mono ?_; rintro e w2 ⟨rfl, rfl⟩; rw [kindI_4])))))
  all_goals
   go_returns
   exact ⟨by rw [RR.out]; first | done | rfl, bl⟩) : p := h
theorem rk71 {p : Prop} (h : p := by
  go_enter Tryd.func50, Tryd.ntmps50
  have mkq := True.intro
  repeat (any_goals ((first | clear mkq | go_quiet (fail)); (try go_wp2_with (first | (go_at_call 79; refine (specIsWellFormed_any _ _ hv).mono ?_; rintro e w1 ⟨rfl, hb1⟩; (have hz1 := hb1.sz; obtain ⟨hk1_0, hf1_0, hl1_0, hn1_0⟩ := hb1.lay (w.heap.size); obtain ⟨hk1_1, hf1_1, hl1_1, hn1_1⟩ := hb1.lay (q)); rw [HW.out]) | (go_at_call 80; refine (specKind_any _ _).mono ?_; rintro e w2 ⟨rfl, rfl⟩; rw [kindI_5])))))
  all_goals
   go_returns
   exact ⟨by rw [RR.out]; first | done | rfl, bl⟩) : p := h
theorem rk72 {p : Prop} (h : p := by
  go_enter Tryd.func50, Tryd.ntmps50
  have mkq := True.intro
  repeat (any_goals ((first | clear mkq | go_quiet (fail)); (try go_wp2_with (first | (go_at_call 79; refine (specIsWellFormed_any _ _ hv).mono ?_; rintro e w1 ⟨rfl, hb1⟩; (have hz1 := hb1.sz; obtain ⟨hk1_0, hf1_0, hl1_0, hn1_0⟩ := hb1.lay (w.heap.size); obtain ⟨hk1_1, hf1_1, hl1_1, hn1_1⟩ := hb1.lay (q)); rw [HW.out]) | (go_at_call 80; refine (specKind_any _ _).mono ?_; rintro e w2 ⟨rfl, rfl⟩; rw [kindI_6])))))
  all_goals
   go_returns
   exact ⟨by rw [RR.out]; first | done | rfl, bl⟩) : p := h
theorem rk73 {p : Prop} (h : p := by
  go_enter Tryd.func50, Tryd.ntmps50
  have mkq := True.intro
  repeat (any_goals ((first | clear mkq | go_quiet (fail)); (try go_wp2_with (first | (go_at_call 79; refine (specIsWellFormed_any _ _ hv).mono ?_; rintro e w1 ⟨rfl, hb1⟩; (have hz1 := hb1.sz; obtain ⟨hk1_0, hf1_0, hl1_0, hn1_0⟩ := hb1.lay (w.heap.size); obtain ⟨hk1_1, hf1_1, hl1_1, hn1_1⟩ := hb1.lay (q)); rw [HW.out]) | (go_at_call 80; refine (specKind_any _ _).mono ?_; rintro e w2 ⟨rfl, rfl⟩; rw [kindI_7])))))
  all_goals
   go_returns
   exact ⟨by rw [RR.out]; first | done | rfl, bl⟩) : p := h
end Go.Proofs.YtebbpcgiacckfaaDoor
