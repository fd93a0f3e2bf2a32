/- Scripts of walks that stand more than once: each a lemma whose proof is given by default. -/
import Derived.ArgAppend
import Derived.Below
import Derived.BigQuiet
import Derived.ChangeOld
import Derived.Deep.Cut
import Derived.Deep.CutBlock
import Derived.Deep.CutRange
import Derived.Deep.DeepHandedRow
import Derived.Deep.DeepWitnessRowRef
import Derived.Deep.Light
import Derived.Deep.MidRow
import Derived.Deep.QuietTactic
import Derived.Deep.RegionHeld3
import Derived.Deep.RegionWith
import Derived.Deep.Slices
import Derived.Handy
import Derived.LaidMore
import Derived.Laws.BitsAllLaws
import Derived.Laws.IdiomCopy
import Derived.Laws.IdiomStrings
import Derived.Laws.MakeOwn
import Derived.Laws.StructEq
import Derived.Lib.BufferOwn
import Derived.Lib.BufferRead
import Derived.Lib.Hide
import Derived.Lib.LaidTab
import Derived.Lib.SmallJoins
import Derived.Maps.OwnOps
import Derived.Maps.OwnSet
import Derived.OpenShut
import Derived.OwnWalk
import Derived.ProofKit
import Derived.Shelf.LaysM
import Derived.Shelf.Slices.Turned
import Derived.Shelf.Strings.Fields
import Derived.Shelf.Strings.FieldsAny
import Derived.Shelf.Strings.FieldsFuncAny
import Derived.Shelf.Strings.FieldsFuncGrows
import Derived.Shelf.Strings.SplitShaped
import Derived.Shelf.Unicode.ExclAny
import Derived.Shelf.Unicode.Is16Any
import Derived.Shelf.Unicode.Is16White
import Derived.Shelf.Unicode.Is16WhiteD
import Derived.Shelf.Unicode.Is32Any
import Derived.Shelf.Unicode.IsSpaceAny
import Derived.Shelf.Unicode.IsSpaceAnyD
import Derived.Shelf.Unicode.Latin
import Derived.ShutString
import Derived.StillTailTactics
import Derived.Stop.LaidErr
import Derived.WalkKit
import Derived.WalkLawsBesides
import Derived.WalkSpells
namespace Go.Proofs.YtoikhhnmbbbjjaaDoor
theorem rk0 {p:Prop} (h:p:=by
  go_enter Tryd.func24,Tryd.ntmps24
  have mkq:=True.intro
  repeat (any_goals ((first | clear mkq | go_quiet (fail));(try go_wp2_with (first | (go_at_call 30;(with_reducible refine (implIn_any (TStore.mk x0 x1 x2 x3 x4 x5 x6 x7 x8 x9 x10 x11 x12) ⟨19,x1_1,x1_2,x1_3,x1_4,x1_5⟩ S q _ (StoreAt.bel bl HS.out) ⟨g1_0,g1_1,g1_2,GT1.out,g1_4,g1_5⟩).mono ?_);rintro e wi1 ⟨rfl,hbi1⟩;rw[H_in1.out];(have hzi1:=hbi1.sz;obtain⟨hki1_0,hfi1_0,hli1_0,hni1_0⟩:=hbi1.lay (w.heap.size);obtain⟨hki1_1,hfi1_1,hli1_1,hni1_1⟩:=hbi1.lay (q);obtain⟨hki1_2,hfi1_2,hli1_2,hni1_2⟩:=hbi1.lay (b1))) | (go_at_call 30;(with_reducible refine (implIn_any (TStore.mk x0 x1 x2 x3 x4 x5 x6 x7 x8 x9 x10 x11 x12) ⟨19,x2_1,x2_2,x2_3,x2_4,x2_5⟩ S q _ (StoreAt.bel bl HS.out) ⟨g2_0,g2_1,g2_2,GT2.out,g2_4,g2_5⟩).mono ?_);rintro e wi2 ⟨rfl,hbi2⟩;rw[H_in2.out];(have hzi2:=hbi2.sz;obtain⟨hki2_0,hfi2_0,hli2_0,hni2_0⟩:=hbi2.lay (w.heap.size);obtain⟨hki2_1,hfi2_1,hli2_1,hni2_1⟩:=hbi2.lay (q);obtain⟨hki2_2,hfi2_2,hli2_2,hni2_2⟩:=hbi2.lay (b1))) | (go_at_call 30;(with_reducible refine (implIn_any (TStore.mk x0 x1 x2 x3 x4 x5 x6 x7 x8 x9 x10 x11 x12) ⟨1,x3_1,x3_2,x3_3,x3_4,x3_5⟩ S q _ (StoreAt.bel bl HS.out) ⟨g3_0,g3_1,g3_2,GT3.out,g3_4,g3_5⟩).mono ?_);rintro e wi3 ⟨rfl,hbi3⟩;rw[H_in3.out];(have hzi3:=hbi3.sz;obtain⟨hki3_0,hfi3_0,hli3_0,hni3_0⟩:=hbi3.lay (w.heap.size);obtain⟨hki3_1,hfi3_1,hli3_1,hni3_1⟩:=hbi3.lay (q);obtain⟨hki3_2,hfi3_2,hli3_2,hni3_2⟩:=hbi3.lay (b1)))))))
  all_goals
   go_returns
   exact⟨by rw[RR.out];first | done | rfl,bl⟩):p:=h
theorem rk1 {p:Prop} (h:p:=by
  clear hw
  go_enter Tryd.func30,Tryd.ntmps30
  have mkq:=True.intro
  repeat (any_goals ((first | clear mkq | go_quiet (fail));(try go_wp2_with (first | (go_at_call 59;refine (implIsWellFormed_any _ _ hv).mono ?_;rintro e w1 ⟨rfl,hb1⟩;(have hz1:=hb1.sz;obtain⟨hk1_0,hf1_0,hl1_0,hn1_0⟩:=hb1.lay (w.heap.size);obtain⟨hk1_1,hf1_1,hl1_1,hn1_1⟩:=hb1.lay (q));rw[HW.out])))))
  all_goals
   go_returns
   exact⟨by rw[RR.out];first | done | rfl,bl⟩):p:=h
theorem rk2 {p:Prop} (h:p:=by
  have HH:=hide hh
  clear hh
  go_enter Tryd.func30,Tryd.ntmps30
  have mkq:=True.intro
  repeat (any_goals ((first | clear mkq | go_quiet (fail));(try go_wp2_with (first | (go_at_call 59;refine (implIsWellFormed_any _ _ hv).mono ?_;rintro e w1 ⟨rfl,hb1⟩;(have hz1:=hb1.sz;obtain⟨hk1_0,hf1_0,hl1_0,hn1_0⟩:=hb1.lay (w.heap.size);obtain⟨hk1_1,hf1_1,hl1_1,hn1_1⟩:=hb1.lay (q));rw[HW.out]) | (go_at_call 22;refine (hasObject_any (TStore.mk x0 x1 x2 x3 x4 x5 x6 x7 x8 x9 x10 x11 x12) _ _ S q _ (StoreAt.bel bl HSt.out)).mono ?_;rintro e w2 ⟨rfl,hb2⟩;(have hz2:=hb2.sz;obtain⟨hk2_0,hf2_0,hl2_0,hn2_0⟩:=hb2.lay (w.heap.size);obtain⟨hk2_1,hf2_1,hl2_1,hn2_1⟩:=hb2.lay (q));rw[HH.out])))))
  all_goals
   go_returns
   exact⟨by rw[RR.out];first | done | rfl,bl⟩):p:=h
theorem rk3 {p:Prop} (h:p:=by
  go_enter Tryd.func24,Tryd.ntmps24
  go_wp2_with (fail)
  repeat (any_goals (go_quiet (fail);(try go_wp2_with (fail))))
  all_goals
   go_returns
   exact⟨by rw[RR.out];first | done | rfl,bl⟩):p:=h
theorem rk4 {p:Prop} (h:p:=by
  have l_key40:decide ((keys.length:Int)≤40)=true:=decide_eq_true (by omega)
  have g_key40:decide (40<(keys.length:Int))=false:=decide_eq_false (by omega)
  have e_itk:((its.length:Int)==(keys.length:Int)+1)=true:=by rw[beq_iff_eq];omega
  have e_itk2:((its.length:Int)==1+(keys.length:Int))=true:=by rw[beq_iff_eq];omega
  have e_itk3:((its.length:Int)==wrap64 (1+(keys.length:Int)))=true:=by rw[itk_eq (by omega) (by omega)];exact decide_eq_true h_itk
  have H_dis:=hide h_dis
  have H_allk:=hide h_allk
  have H_alli:=hide h_alli
  clear h_tag h_key40 h_dis h_allk h_itk h_alli
  go_enter Tryd.func24,Tryd.ntmps24
  have mkq:=True.intro
  repeat (any_goals ((first | clear mkq | go_quiet (fail));(try go_wp2_with (first | (go_at_call 46;(with_reducible refine (implDist_any keys S' _ _ _ (Row.bel bl HRk.out)).mono ?_);rintro e wdk ⟨rfl,hbdk⟩;rw[H_dis.out];(have hzdk:=hbdk.sz;obtain⟨hkdk_0,hfdk_0,hldk_0,hndk_0⟩:=hbdk.lay (w.heap.size);obtain⟨hkdk_1,hfdk_1,hldk_1,hndk_1⟩:=hbdk.lay (q))) | (go_at_call 23;(with_reducible refine (implAll_any (TStore.mk x0 x1 x2 x3 x4 x5 x6 x7 x8 x9 x10 x11 x12) keys S S' q _ _ _ (StoreAt.bel bl HS.out) (Row.bel bl HRk.out)).mono ?_);rintro e wak ⟨rfl,hbak⟩;rw[H_allk.out];(have hzak:=hbak.sz;obtain⟨hkak_0,hfak_0,hlak_0,hnak_0⟩:=hbak.lay (w.heap.size);obtain⟨hkak_1,hfak_1,hlak_1,hnak_1⟩:=hbak.lay (q))) | (go_at_call 23;(with_reducible refine (implAll_any (TStore.mk x0 x1 x2 x3 x4 x5 x6 x7 x8 x9 x10 x11 x12) its S S' q _ _ _ (StoreAt.bel bl HS.out) (Row.bel bl HRi.out)).mono ?_);rintro e wai ⟨rfl,hbai⟩;rw[H_alli.out];(have hzai:=hbai.sz;obtain⟨hkai_0,hfai_0,hlai_0,hnai_0⟩:=hbai.lay (w.heap.size);obtain⟨hkai_1,hfai_1,hlai_1,hnai_1⟩:=hbai.lay (q)))))))
  all_goals
   go_returns
   exact⟨by rw[RR.out];first | done | rfl,bl⟩):p:=h
theorem rk5 {p:Prop} (h:p:=by
  go_enter Tryd.func24,Tryd.ntmps24
  have mkq:=True.intro
  repeat (any_goals ((first | clear mkq | go_quiet (fail));(try go_wp2_with (first | (go_at_call 23;(with_reducible refine (implAll_any (TStore.mk x0 x1 x2 x3 x4 x5 x6 x7 x8 x9 x10 x11 x12) its S S' q _ _ _ (StoreAt.bel bl HS.out) (Row.bel bl HRi.out)).mono ?_);rintro e wai ⟨rfl,hbai⟩;rw[H_alli.out];(have hzai:=hbai.sz;obtain⟨hkai_0,hfai_0,hlai_0,hnai_0⟩:=hbai.lay (w.heap.size);obtain⟨hkai_1,hfai_1,hlai_1,hnai_1⟩:=hbai.lay (q)))))))
  all_goals
   go_returns
   exact⟨by rw[RR.out];first | done | rfl,bl⟩):p:=h
theorem rk6 {p:Prop} (h:p:=by
  go_enter Tryd.func40,Tryd.ntmps40
  go_wp2_with (fail)
  repeat (any_goals (go_quiet (fail);(try go_wp2_with (fail))))
  all_goals
   go_returns
   exact⟨by rw[RR.out];first | done | rfl,bl⟩):p:=h
theorem rk7 {p:Prop} (h:p:=by
  go_enter Tryd.func24,Tryd.ntmps24
  have mkq:=True.intro
  repeat (any_goals ((first | clear mkq | go_quiet (fail));(try go_wp2_with (first | (go_at_call 46;(with_reducible refine (implDist_any keys S' _ _ _ (Row.bel bl HRk.out)).mono ?_);rintro e wdk ⟨rfl,hbdk⟩;rw[H_dis.out];(have hzdk:=hbdk.sz;obtain⟨hkdk_0,hfdk_0,hldk_0,hndk_0⟩:=hbdk.lay (w.heap.size);obtain⟨hkdk_1,hfdk_1,hldk_1,hndk_1⟩:=hbdk.lay (q))) | (go_at_call 23;(with_reducible refine (implAll_any (TStore.mk x0 x1 x2 x3 x4 x5 x6 x7 x8 x9 x10 x11 x12) keys S S' q _ _ _ (StoreAt.bel bl HS.out) (Row.bel bl HRk.out)).mono ?_);rintro e wak ⟨rfl,hbak⟩;rw[H_allk.out];(have hzak:=hbak.sz;obtain⟨hkak_0,hfak_0,hlak_0,hnak_0⟩:=hbak.lay (w.heap.size);obtain⟨hkak_1,hfak_1,hlak_1,hnak_1⟩:=hbak.lay (q)))))))
  all_goals
   go_returns
   exact⟨by rw[RR.out];first | done | rfl,bl⟩):p:=h
theorem rk8 {p:Prop} (h:p:=by
  go_enter Tryd.func24,Tryd.ntmps24
  have mkq:=True.intro
  repeat (any_goals ((first | clear mkq | go_quiet (fail));(try go_wp2_with (first | (go_at_call 30;(with_reducible refine (implIn_any (TStore.mk x0 x1 x2 x3 x4 x5 x6 x7 x8 x9 x10 x11 x12) ⟨19,x1_1,x1_2,x1_3,x1_4,x1_5⟩ S q _ (StoreAt.bel bl HS.out) ⟨g1_0,g1_1,g1_2,GT1.out,g1_4,g1_5⟩).mono ?_);rintro e wi1 ⟨rfl,hbi1⟩;rw[H_in1.out];(have hzi1:=hbi1.sz;obtain⟨hki1_0,hfi1_0,hli1_0,hni1_0⟩:=hbi1.lay (w.heap.size);obtain⟨hki1_1,hfi1_1,hli1_1,hni1_1⟩:=hbi1.lay (q);obtain⟨hki1_2,hfi1_2,hli1_2,hni1_2⟩:=hbi1.lay (b1))) | (go_at_call 30;(with_reducible refine (implIn_any (TStore.mk x0 x1 x2 x3 x4 x5 x6 x7 x8 x9 x10 x11 x12) ⟨19,x2_1,x2_2,x2_3,x2_4,x2_5⟩ S q _ (StoreAt.bel bl HS.out) ⟨g2_0,g2_1,g2_2,GT2.out,g2_4,g2_5⟩).mono ?_);rintro e wi2 ⟨rfl,hbi2⟩;rw[H_in2.out];(have hzi2:=hbi2.sz;obtain⟨hki2_0,hfi2_0,hli2_0,hni2_0⟩:=hbi2.lay (w.heap.size);obtain⟨hki2_1,hfi2_1,hli2_1,hni2_1⟩:=hbi2.lay (q);obtain⟨hki2_2,hfi2_2,hli2_2,hni2_2⟩:=hbi2.lay (b1)))))))
  all_goals
   go_returns
   exact⟨by rw[RR.out];first | done | rfl,bl⟩):p:=h
theorem rk9 {p:Prop} (h:p:=by
  simp only[VVal.val]
  unfold maxLen at ht
  go_enter Tryd.func42,Tryd.ntmps42
  go_wp2
  all_goals
   go_returns
   go_light
   refine⟨?_,bl⟩
   simp only[Array.getD_eq_getD_getElem?,List.getElem?_toArray,List.getElem?_cons_succ,List.getElem?_cons_zero,Option.getD_some]
   have hzz:=size_of_empty t
   first | (simp_all [wellB];done) | (simp_all [wellB];omega) | (unfold wellB;grind)):p:=h
theorem rk10 {p:Prop} (h:p:=by
  simp only[VVal.val]
  unfold maxLen at ht
  go_enter Tryd.func59,Tryd.ntmps59
  go_wp2
  all_goals
   go_returns
   go_light
   refine⟨?_,bl⟩
   simp only[Array.getD_eq_getD_getElem?,List.getElem?_toArray,List.getElem?_cons_succ,List.getElem?_cons_zero,Option.getD_some]
   have hzz:=size_of_empty t
   first | (simp_all [wellB];done) | (simp_all [wellB];omega) | (unfold wellB;grind)):p:=h
theorem rk11 {p:Prop} (h:p:=by
  clear h_rng
  go_enter Tryd.func40,Tryd.ntmps40
  (go_wp2_with (fail))
  repeat (any_goals (go_quiet (fail);(try (go_wp2_with (fail)))))
  refine wp_region_held_drew (S:=fun w'=>w'.cell? ⟨w.heap.size,0,none⟩=some (.int .i64 9)∧w'.cell? ⟨w.heap.size,3,none⟩=some (.slice (some ⟨b1,o1,none⟩) 2 ci)∧w'.cell? ⟨b1,o1,none⟩=some (.int .i64 2)∧w'.cell? ⟨b1,o1+1,none⟩=some (.int .i64 u1)∧w'.cell? ⟨b1,o1+2,none⟩=some (.int .i64 u2)∧w'.cell? ⟨b1,o1+3,none⟩=some (.string u3)∧w'.cell? ⟨b1,o1+4,none⟩=some (.int .i64 u4)∧w'.cell? ⟨b1,o1+5,none⟩=some (.int .i64 u5)∧w'.cell? ⟨b1,o1+6,none⟩=some (.int .i64 1)∧w'.cell? ⟨b1,o1+7,none⟩=some (.int .i64 v1)∧w'.cell? ⟨b1,o1+8,none⟩=some (.int .i64 v2)∧w'.cell? ⟨b1,o1+9,none⟩=some (.string v3)∧w'.cell? ⟨b1,o1+10,none⟩=some (.int .i64 v4)∧w'.cell? ⟨b1,o1+11,none⟩=some (.int .i64 v5)) (by kernel_rfl) ?_ (fun hHeld=>?_)
  ·
   exact⟨(by first | (simp[* ];done) | (simp[go_sem, * ];done)),(by first | (simp[* ];done) | (simp[go_sem, * ];done)),(Bel.box (W:=w) bl b1 hl1 _).trans c1_0,(Bel.box (W:=w) bl b1 hl1 _).trans c1_1,(Bel.box (W:=w) bl b1 hl1 _).trans c1_2,(Bel.box (W:=w) bl b1 hl1 _).trans c1_3,(Bel.box (W:=w) bl b1 hl1 _).trans c1_4,(Bel.box (W:=w) bl b1 hl1 _).trans c1_5,(Bel.box (W:=w) bl b1 hl1 _).trans c2_0,(Bel.box (W:=w) bl b1 hl1 _).trans c2_1,(Bel.box (W:=w) bl b1 hl1 _).trans c2_2,(Bel.box (W:=w) bl b1 hl1 _).trans c2_3,(Bel.box (W:=w) bl b1 hl1 _).trans c2_4,(Bel.box (W:=w) bl b1 hl1 _).trans c2_5⟩
  refine tkI 0 ?_
  refine tkI 1 ?_
  refine tkI 2 ?_
  refine tkI 3 ?_
  refine tkI 4 ?_
  refine tkI 5 ?_
  refine tkI 6 ?_
  refine tkI 7 ?_
  refine tkI 8 ?_
  refine tkI 9 ?_
  refine tkI 10 ?_
  refine tkI 11 ?_
  refine tkI 12 ?_
  refine tkI 13 ?_
  refine tkI 14 ?_
  refine tkI 15 ?_
  refine tkI 16 ?_
  refine tkI 17 ?_
  refine tkI 18 ?_
  refine tkI 19 ?_
  refine tkI 20 ?_
  refine tkI 21 ?_
  refine tkI 22 ?_
  refine tkI 23 ?_
  refine tkI 24 ?_
  refine tkI 25 ?_
  refine wpAnyH_ready (rs:=[26]) (by kernel_rfl) (by simp) ?_
  refine AllReadyH.cons (o:=_) rfl (fun K hK=>?_) AllReadyH.nil
  go_simp
  clear hHeld
  (go_at_call 19;(with_reducible refine (specIn_any (TStore.mk x0 x1 x2 x3 x4 x5 x6 x7 x8 x9 x10 x11 x12) ⟨2,u1,u2,u3,u4,u5⟩ S q _ (StoreAt.bel bl HS.out) ⟨g1_0,g1_1,g1_2,GT1.out,g1_4,g1_5⟩).mono ?_);rintro e wi1 ⟨rfl,hbi1⟩;rw[H_in1.out];(have hzi1:=hbi1.sz;obtain⟨hki1_0,hfi1_0,hli1_0,hni1_0⟩:=hbi1.lay (w.heap.size);obtain⟨hki1_1,hfi1_1,hli1_1,hni1_1⟩:=hbi1.lay (q);obtain⟨hki1_2,hfi1_2,hli1_2,hni1_2⟩:=hbi1.lay (b1)))
  refine hK.out _ _ ?_ (fun hHeld=>?_)
  ·
   exact⟨(by first | (simp[* ];done) | (simp[go_sem, * ];done)),(by first | (simp[* ];done) | (simp[go_sem, * ];done)),(Bel.box (W:=w) bl b1 hl1 _).trans c1_0,(Bel.box (W:=w) bl b1 hl1 _).trans c1_1,(Bel.box (W:=w) bl b1 hl1 _).trans c1_2,(Bel.box (W:=w) bl b1 hl1 _).trans c1_3,(Bel.box (W:=w) bl b1 hl1 _).trans c1_4,(Bel.box (W:=w) bl b1 hl1 _).trans c1_5,(Bel.box (W:=w) bl b1 hl1 _).trans c2_0,(Bel.box (W:=w) bl b1 hl1 _).trans c2_1,(Bel.box (W:=w) bl b1 hl1 _).trans c2_2,(Bel.box (W:=w) bl b1 hl1 _).trans c2_3,(Bel.box (W:=w) bl b1 hl1 _).trans c2_4,(Bel.box (W:=w) bl b1 hl1 _).trans c2_5⟩
  clear hK K
  (try simp only[Act.put,List.setIfInBounds_toArray,List.set_cons_zero,List.set_cons_succ,List.getElem_toArray,List.getElem_cons_zero,List.getElem_cons_succ])
  refine tkI 27 ?_
  refine tkI 28 ?_
  refine tkI 29 ?_
  refine tkI 30 ?_
  refine tkI 31 ?_
  refine tkI 32 ?_
  refine tkI 33 ?_
  refine wpAnyH_ready (rs:=[34]) (by kernel_rfl) (by simp) ?_
  refine AllReadyH.cons (o:=_) rfl (fun K hK=>?_) AllReadyH.nil
  go_simp
  clear hHeld
  (go_at_call 19;(with_reducible refine (specIn_any (TStore.mk x0 x1 x2 x3 x4 x5 x6 x7 x8 x9 x10 x11 x12) ⟨1,v1,v2,v3,v4,v5⟩ S q _ (StoreAt.bel bl HS.out) ⟨g2_0,g2_1,g2_2,GT2.out,g2_4,g2_5⟩).mono ?_);rintro e wi2 ⟨rfl,hbi2⟩;rw[H_in2.out];(have hzi2:=hbi2.sz;obtain⟨hki2_0,hfi2_0,hli2_0,hni2_0⟩:=hbi2.lay (w.heap.size);obtain⟨hki2_1,hfi2_1,hli2_1,hni2_1⟩:=hbi2.lay (q);obtain⟨hki2_2,hfi2_2,hli2_2,hni2_2⟩:=hbi2.lay (b1)))
  refine hK.out _ _ ?_ (fun hHeld=>?_)
  ·
   exact⟨(by first | (simp[* ];done) | (simp[go_sem, * ];done)),(by first | (simp[* ];done) | (simp[go_sem, * ];done)),(Bel.box (W:=w) bl b1 hl1 _).trans c1_0,(Bel.box (W:=w) bl b1 hl1 _).trans c1_1,(Bel.box (W:=w) bl b1 hl1 _).trans c1_2,(Bel.box (W:=w) bl b1 hl1 _).trans c1_3,(Bel.box (W:=w) bl b1 hl1 _).trans c1_4,(Bel.box (W:=w) bl b1 hl1 _).trans c1_5,(Bel.box (W:=w) bl b1 hl1 _).trans c2_0,(Bel.box (W:=w) bl b1 hl1 _).trans c2_1,(Bel.box (W:=w) bl b1 hl1 _).trans c2_2,(Bel.box (W:=w) bl b1 hl1 _).trans c2_3,(Bel.box (W:=w) bl b1 hl1 _).trans c2_4,(Bel.box (W:=w) bl b1 hl1 _).trans c2_5⟩
  clear hK K
  (try simp only[Act.put,List.setIfInBounds_toArray,List.set_cons_zero,List.set_cons_succ,List.getElem_toArray,List.getElem_cons_zero,List.getElem_cons_succ])
  refine tkI 35 ?_
  refine tkI 36 ?_
  refine tkI 37 ?_
  refine tkI 38 ?_
  refine tkI 39 ?_
  refine tkI 40 ?_
  refine tkI 41 ?_
  refine tkI 42 ?_
  refine tkI 43 ?_
  refine tkI 44 ?_
  refine tkI 45 ?_
  refine tkI 46 ?_
  refine tkI 47 ?_
  refine tkI 48 ?_
  refine wpAnyH_ready (rs:=[49]) (by kernel_rfl) (by simp) ?_
  refine AllReadyH.cons (o:=_) rfl (fun K hK=>?_) AllReadyH.nil
  go_simp
  clear hHeld
  (go_at_call 36;refine (l1InS_any _ _ _ _).mono ?_;rintro e w9 ⟨rfl,rfl⟩;rw[H_lin.out])
  refine hK.out _ _ ?_ (fun hHeld=>?_)
  ·
   exact⟨(by first | (simp[* ];done) | (simp[go_sem, * ];done)),(by first | (simp[* ];done) | (simp[go_sem, * ];done)),(Bel.box (W:=w) bl b1 hl1 _).trans c1_0,(Bel.box (W:=w) bl b1 hl1 _).trans c1_1,(Bel.box (W:=w) bl b1 hl1 _).trans c1_2,(Bel.box (W:=w) bl b1 hl1 _).trans c1_3,(Bel.box (W:=w) bl b1 hl1 _).trans c1_4,(Bel.box (W:=w) bl b1 hl1 _).trans c1_5,(Bel.box (W:=w) bl b1 hl1 _).trans c2_0,(Bel.box (W:=w) bl b1 hl1 _).trans c2_1,(Bel.box (W:=w) bl b1 hl1 _).trans c2_2,(Bel.box (W:=w) bl b1 hl1 _).trans c2_3,(Bel.box (W:=w) bl b1 hl1 _).trans c2_4,(Bel.box (W:=w) bl b1 hl1 _).trans c2_5⟩
  clear hK K
  (try simp only[Act.put,List.setIfInBounds_toArray,List.set_cons_zero,List.set_cons_succ,List.getElem_toArray,List.getElem_cons_zero,List.getElem_cons_succ])
  refine tkI 50 ?_
  refine tkI 51 ?_
  refine wpAnyH_done (by kernel_rfl) ?_ _
  all_goals (try (go_wp2_with (fail)))
  all_goals
   go_returns
   exact⟨by rw[RR.out];first | done | rfl,bl⟩):p:=h
theorem rk12 {p:Prop} (h:p:=by
  go_enter Tryd.func24,Tryd.ntmps24
  have mkq:=True.intro
  repeat (any_goals ((first | clear mkq | go_quiet (fail));(try go_wp2_with (first | (go_at_call 30;(with_reducible refine (implIn_any (TStore.mk x0 x1 x2 x3 x4 x5 x6 x7 x8 x9 x10 x11 x12) ⟨19,x1_1,x1_2,x1_3,x1_4,x1_5⟩ S q _ (StoreAt.bel bl HS.out) ⟨g1_0,g1_1,g1_2,GT1.out,g1_4,g1_5⟩).mono ?_);rintro e wi1 ⟨rfl,hbi1⟩;rw[H_in1.out];(have hzi1:=hbi1.sz;obtain⟨hki1_0,hfi1_0,hli1_0,hni1_0⟩:=hbi1.lay (w.heap.size);obtain⟨hki1_1,hfi1_1,hli1_1,hni1_1⟩:=hbi1.lay (q);obtain⟨hki1_2,hfi1_2,hli1_2,hni1_2⟩:=hbi1.lay (b1)))))))
  all_goals
   go_returns
   exact⟨by rw[RR.out];first | done | rfl,bl⟩):p:=h
theorem rk13 {p:Prop} (h:p:=by
  have l_key40:decide ((keys.length:Int)≤40)=true:=decide_eq_true (by omega)
  have g_key40:decide (40<(keys.length:Int))=false:=decide_eq_false (by omega)
  have e_itk:((its.length:Int)==(keys.length:Int)+1)=true:=by rw[beq_iff_eq];omega
  have e_itk2:((its.length:Int)==1+(keys.length:Int))=true:=by rw[beq_iff_eq];omega
  have e_itk3:((its.length:Int)==wrap64 (1+(keys.length:Int)))=true:=by rw[itk_eq (by omega) (by omega)];exact decide_eq_true h_itk
  have H_dis:=hide h_dis
  have H_alli:=hide h_alli
  clear h_tag h_key40 h_dis h_itk h_alli
  go_enter Tryd.func24,Tryd.ntmps24
  have mkq:=True.intro
  repeat (any_goals ((first | clear mkq | go_quiet (fail));(try go_wp2_with (first | (go_at_call 46;(with_reducible refine (implDist_any keys S' _ _ _ (Row.bel bl HRk.out)).mono ?_);rintro e wdk ⟨rfl,hbdk⟩;rw[H_dis.out];(have hzdk:=hbdk.sz;obtain⟨hkdk_0,hfdk_0,hldk_0,hndk_0⟩:=hbdk.lay (w.heap.size);obtain⟨hkdk_1,hfdk_1,hldk_1,hndk_1⟩:=hbdk.lay (q))) | (go_at_call 23;(with_reducible refine (implAll_any (TStore.mk x0 x1 x2 x3 x4 x5 x6 x7 x8 x9 x10 x11 x12) its S S' q _ _ _ (StoreAt.bel bl HS.out) (Row.bel bl HRi.out)).mono ?_);rintro e wai ⟨rfl,hbai⟩;rw[H_alli.out];(have hzai:=hbai.sz;obtain⟨hkai_0,hfai_0,hlai_0,hnai_0⟩:=hbai.lay (w.heap.size);obtain⟨hkai_1,hfai_1,hlai_1,hnai_1⟩:=hbai.lay (q)))))))
  all_goals
   go_returns
   exact⟨by rw[RR.out];first | done | rfl,bl⟩):p:=h
theorem rk14 {p:Prop} (h:p:=by
  have H_al:=hide h_al
  clear h_tag h_key0 h_al
  go_enter Tryd.func24,Tryd.ntmps24
  have mkq:=True.intro
  repeat (any_goals ((first | clear mkq | go_quiet (fail));(try go_wp2_with (first | (go_at_call 23;(with_reducible refine (HALL.out _ (StoreAt.bel bl HS.out) (Row.bel bl HRi.out)).mono ?_);rintro e wai ⟨rfl,hbai⟩;rw[H_al.out];(have hzai:=hbai.sz;obtain⟨hkai_0,hfai_0,hlai_0,hnai_0⟩:=hbai.lay (w.heap.size);obtain⟨hkai_1,hfai_1,hlai_1,hnai_1⟩:=hbai.lay (q);obtain⟨hkai_2,hfai_2,hlai_2,hnai_2⟩:=hbai.lay (b1)))))))
  all_goals
   go_returns
   exact⟨by rw[RR.out];first | done | rfl,bl⟩):p:=h
theorem rk15 {p:Prop} (h:p:=by
  go_enter Tryd.func24,Tryd.ntmps24
  (go_wp2_with (fail))
  repeat (any_goals (go_quiet (fail);(try (go_wp2_with (fail)))))
  refine wp_region_held_drew (S:=fun w'=>w'.cell? ⟨w.heap.size,0,none⟩=some (.int .i64 9)∧w'.cell? ⟨w.heap.size,3,none⟩=some (.slice (some ⟨b1,o1,none⟩) 2 ci)∧w'.cell? ⟨b1,o1,none⟩=some (.int .i64 2)∧w'.cell? ⟨b1,o1+1,none⟩=some (.int .i64 u1)∧w'.cell? ⟨b1,o1+2,none⟩=some (.int .i64 u2)∧w'.cell? ⟨b1,o1+3,none⟩=some (.string u3)∧w'.cell? ⟨b1,o1+4,none⟩=some (.int .i64 u4)∧w'.cell? ⟨b1,o1+5,none⟩=some (.int .i64 u5)∧w'.cell? ⟨b1,o1+6,none⟩=some (.int .i64 1)∧w'.cell? ⟨b1,o1+7,none⟩=some (.int .i64 v1)∧w'.cell? ⟨b1,o1+8,none⟩=some (.int .i64 v2)∧w'.cell? ⟨b1,o1+9,none⟩=some (.string v3)∧w'.cell? ⟨b1,o1+10,none⟩=some (.int .i64 v4)∧w'.cell? ⟨b1,o1+11,none⟩=some (.int .i64 v5)) (by kernel_rfl) ?_ (fun hHeld=>?_)
  ·
   exact⟨(by first | (simp[* ];done) | (simp[go_sem, * ];done)),(by first | (simp[* ];done) | (simp[go_sem, * ];done)),(Bel.box (W:=w) bl b1 hl1 _).trans c1_0,(Bel.box (W:=w) bl b1 hl1 _).trans c1_1,(Bel.box (W:=w) bl b1 hl1 _).trans c1_2,(Bel.box (W:=w) bl b1 hl1 _).trans c1_3,(Bel.box (W:=w) bl b1 hl1 _).trans c1_4,(Bel.box (W:=w) bl b1 hl1 _).trans c1_5,(Bel.box (W:=w) bl b1 hl1 _).trans c2_0,(Bel.box (W:=w) bl b1 hl1 _).trans c2_1,(Bel.box (W:=w) bl b1 hl1 _).trans c2_2,(Bel.box (W:=w) bl b1 hl1 _).trans c2_3,(Bel.box (W:=w) bl b1 hl1 _).trans c2_4,(Bel.box (W:=w) bl b1 hl1 _).trans c2_5⟩
  refine tkI 0 ?_
  refine tkI 1 ?_
  refine tkI 2 ?_
  refine tkI 3 ?_
  refine tkI 4 ?_
  refine tkI 5 ?_
  refine tkI 6 ?_
  refine tkI 7 ?_
  refine tkI 8 ?_
  refine tkI 9 ?_
  refine tkI 10 ?_
  refine tkI 11 ?_
  refine tkI 12 ?_
  refine tkI 13 ?_
  refine tkI 14 ?_
  refine tkI 15 ?_
  refine tkI 16 ?_
  refine tkI 17 ?_
  refine tkI 18 ?_
  refine tkI 19 ?_
  refine tkI 20 ?_
  refine tkI 21 ?_
  refine tkI 22 ?_
  refine tkI 23 ?_
  refine wpAnyH_ready (rs:=[24]) (by kernel_rfl) (by simp) ?_
  refine AllReadyH.cons (o:=_) rfl (fun K hK=>?_) AllReadyH.nil
  go_simp
  clear hHeld
  (go_at_call 23;(with_reducible refine (HALL.out _ (StoreAt.bel bl HS.out) (Row.bel bl HRi.out)).mono ?_);rintro e wai ⟨rfl,hbai⟩;rw[H_al.out];(have hzai:=hbai.sz;obtain⟨hkai_0,hfai_0,hlai_0,hnai_0⟩:=hbai.lay (w.heap.size);obtain⟨hkai_1,hfai_1,hlai_1,hnai_1⟩:=hbai.lay (q);obtain⟨hkai_2,hfai_2,hlai_2,hnai_2⟩:=hbai.lay (b1)))
  refine hK.out _ _ ?_ (fun hHeld=>?_)
  ·
   exact⟨(by first | (simp[* ];done) | (simp[go_sem, * ];done)),(by first | (simp[* ];done) | (simp[go_sem, * ];done)),(Bel.box (W:=w) bl b1 hl1 _).trans c1_0,(Bel.box (W:=w) bl b1 hl1 _).trans c1_1,(Bel.box (W:=w) bl b1 hl1 _).trans c1_2,(Bel.box (W:=w) bl b1 hl1 _).trans c1_3,(Bel.box (W:=w) bl b1 hl1 _).trans c1_4,(Bel.box (W:=w) bl b1 hl1 _).trans c1_5,(Bel.box (W:=w) bl b1 hl1 _).trans c2_0,(Bel.box (W:=w) bl b1 hl1 _).trans c2_1,(Bel.box (W:=w) bl b1 hl1 _).trans c2_2,(Bel.box (W:=w) bl b1 hl1 _).trans c2_3,(Bel.box (W:=w) bl b1 hl1 _).trans c2_4,(Bel.box (W:=w) bl b1 hl1 _).trans c2_5⟩
  clear hK K
  (try simp only[Act.put,List.setIfInBounds_toArray,List.set_cons_zero,List.set_cons_succ,List.getElem_toArray,List.getElem_cons_zero,List.getElem_cons_succ])
  refine tkI 25 ?_
  refine tkI 26 ?_
  refine tkI 27 ?_
  refine tkI 28 ?_
  refine tkI 29 ?_
  refine tkI 30 ?_
  refine tkI 31 ?_
  refine tkI 32 ?_
  refine tkI 33 ?_
  refine tkI 34 ?_
  refine tkI 35 ?_
  refine tkI 36 ?_
  refine tkI 37 ?_
  refine tkI 38 ?_
  refine tkI 39 ?_
  refine tkI 40 ?_
  refine tkI 41 ?_
  refine tkI 42 ?_
  refine tkI 43 ?_
  refine tkI 44 ?_
  refine tkI 45 ?_
  refine tkI 46 ?_
  refine tkI 47 ?_
  refine tkI 48 ?_
  refine tkI 49 ?_
  refine wpAnyH_done (by kernel_rfl) ?_ _
  all_goals (cases bt <;> cases bk)
  all_goals (try (go_wp2_with (fail)))
  all_goals
   go_returns
   exact⟨by rw[RR.out];first | done | rfl,bl⟩):p:=h
theorem rk16 {p:Prop} (h:p:=by
  clear h
  go_enter Tryd.func47,Tryd.ntmps47
  go_wp2_with (fail)
  repeat (any_goals (go_quiet (fail);(try go_wp2_with (fail))))
  all_goals
   go_returns
   exact⟨ret_bl RR.out.symm,bl⟩):p:=h
theorem rk17 {p:Prop} (h:p:=by
  have H_alli:=hide h_alli
  clear h_t0 h_t1 h_fl h_alli h_key0
  go_enter Tryd.func24,Tryd.ntmps24
  go_wp2_with (fail)
  repeat (any_goals (go_quiet (fail);(try go_wp2_with (fail))))
  go_region_held3 (fun w'=>w'.cell? ⟨w.heap.size,0,none⟩=some (.int .i64 5)∧w'.cell? ⟨w.heap.size,1,none⟩=some (.int .i64 (m:Int))∧w'.cell? ⟨w.heap.size,3,none⟩=some (.slice Ai its.length ci)∧w'.cell? ⟨w.heap.size,4,none⟩=some (.slice Ak keys.length ck)∧w'.cell? ⟨q,1,none⟩=some (.slice (some ⟨b4,o4,none⟩) x1.length c1)∧w'.cell? ⟨b4,o4+m*3+1,none⟩=some (.slice A4_1 x4_1.length C4_1)) (go_keep) (first | (go_at_call 23;(with_reducible refine (implAll_any (TStore.mk x0 x1 x2 x3 x4 x5 x6 x7 x8 x9 x10 x11 x12) its S S' q _ _ _ (StoreAt.bel bl HS.out) (Row.bel bl HRi.out)).mono ?_);rintro e wai ⟨rfl,hbai⟩;rw[H_alli.out];(have hzai:=hbai.sz;obtain⟨hkai_0,hfai_0,hlai_0,hnai_0⟩:=hbai.lay (w.heap.size);obtain⟨hkai_1,hfai_1,hlai_1,hnai_1⟩:=hbai.lay (q);obtain⟨hkai_2,hfai_2,hlai_2,hnai_2⟩:=hbai.lay (b4))))
  all_goals
   (try go_wp2_with (fail))
  all_goals
   go_returns
   exact⟨by rw[RR.out];first | done | rfl,bl⟩):p:=h
theorem rk18 {p:Prop} (h:p:=by
  go_enter Tryd.func9,Tryd.ntmps9
  have mkq:=True.intro
  repeat (any_goals ((first | clear mkq | go_quiet (fail));(try go_wp2_with (first | (go_at_call 20;refine (allNames_row x0 S _ _ _ (Row.bel bl HR0.out) (HT.out.on bl)).mono ?_;rintro e w8 ⟨rfl,hb8⟩;rw[HN.out];(have hz8:=hb8.sz;obtain⟨hk8_0,hf8_0,hl8_0,hn8_0⟩:=hb8.lay (w.heap.size))) | (go_at_call 21;refine (validRecords_row x1 S _ _ _ (Row.bel bl HR1.out) (HT.out.on bl)).mono ?_;rintro e w9 ⟨rfl,hb9⟩;rw[HRE.out];(have hz9:=hb9.sz;obtain⟨hk9_0,hf9_0,hl9_0,hn9_0⟩:=hb9.lay (w.heap.size)))))))
  all_goals
   go_returns
   exact⟨ret_bl RR.out.symm,bl⟩):p:=h
theorem rk19 {p:Prop} (h:p:=by
  go_enter Tryd.func24,Tryd.ntmps24
  have mkq:=True.intro
  repeat (any_goals ((first | clear mkq | go_quiet (fail));(try go_wp2_with (first | (go_at_call 46;(with_reducible refine (implDist_any keys S' _ _ _ (Row.bel bl HRk.out)).mono ?_);rintro e wdk ⟨rfl,hbdk⟩;rw[H_dis.out];(have hzdk:=hbdk.sz;obtain⟨hkdk_0,hfdk_0,hldk_0,hndk_0⟩:=hbdk.lay (w.heap.size);obtain⟨hkdk_1,hfdk_1,hldk_1,hndk_1⟩:=hbdk.lay (q)))))))
  all_goals
   go_returns
   exact⟨by rw[RR.out];first | done | rfl,bl⟩):p:=h
theorem rk20 {p:Prop} (h:p:=by
  go_enter Tryd.func40,Tryd.ntmps40
  have mkq:=True.intro
  repeat (any_goals ((first | clear mkq | go_quiet (fail));(try go_wp2_with (first | (go_at_call 41;(with_reducible refine (specAll_any (TStore.mk x0 x1 x2 x3 x4 x5 x6 x7 x8 x9 x10 x11 x12) its S S' q _ _ _ (StoreAt.bel bl HS.out) (Row.bel bl HRi.out)).mono ?_);rintro e wai ⟨rfl,hbai⟩;rw[H_alli.out];(have hzai:=hbai.sz;obtain⟨hkai_0,hfai_0,hlai_0,hnai_0⟩:=hbai.lay (w.heap.size);obtain⟨hkai_1,hfai_1,hlai_1,hnai_1⟩:=hbai.lay (q)))))))
  all_goals
   go_returns
   exact⟨by rw[RR.out];first | done | rfl,bl⟩):p:=h
theorem rk21 {p:Prop} (h:p:=by
  go_enter Tryd.func18,Tryd.ntmps18
  have mkq:=True.intro
  repeat (any_goals ((first | clear mkq | go_quiet (fail));(try go_wp2_with (go_at_call 36;refine (l1InS_any _ _ _ _).mono ?_;rintro e w9 ⟨rfl,rfl⟩))))
  all_goals
   go_returns
   exact⟨by rw[RR.out];first | done | rfl,bl⟩):p:=h
theorem rk22 {p:Prop} (h:p:=by
  have e_key0:((keys.length:Int)==0)=true:=by rw[beq_iff_eq];omega
  have n_key0:((keys.length:Int) != 0)=false:=by rw[bne_eq_false_iff_eq];omega
  have l_t1:decide (1≤tag)=true:=decide_eq_true (by omega)
  have g_t1:decide (tag<1)=false:=decide_eq_false (by omega)
  have g_t2:decide (0<tag)=true:=decide_eq_true (by omega)
  have l_n3:decide (0≤x3_1)=true:=decide_eq_true (by omega)
  have H_in1:=hide h_in1
  have H_in2:=hide h_in2
  have H_in3:=hide h_in3
  clear h_key0 h_n3 h_in1 h_in2 h_in3
  go_enter Tryd.func40,Tryd.ntmps40
  (go_wp2_with (fail))
  go_quiet (fail)
  go_upto_region 20 with (fail)
  simp only[List.append]
  (go_wp2_with (first | (go_at_call 19;(with_reducible refine (specIn_any (TStore.mk x0 x1 x2 x3 x4 x5 x6 x7 x8 x9 x10 x11 x12) ⟨19,x1_1,x1_2,x1_3,x1_4,x1_5⟩ S q _ (StoreAt.bel bl HS.out) ⟨g1_0,g1_1,g1_2,GT1.out,g1_4,g1_5⟩).mono ?_);rintro e wi1 ⟨rfl,hbi1⟩;rw[H_in1.out];(have hzi1:=hbi1.sz;obtain⟨hki1_0,hfi1_0,hli1_0,hni1_0⟩:=hbi1.lay (w.heap.size);obtain⟨hki1_1,hfi1_1,hli1_1,hni1_1⟩:=hbi1.lay (q);obtain⟨hki1_2,hfi1_2,hli1_2,hni1_2⟩:=hbi1.lay (b1))) | (go_at_call 19;(with_reducible refine (specIn_any (TStore.mk x0 x1 x2 x3 x4 x5 x6 x7 x8 x9 x10 x11 x12) ⟨19,x2_1,x2_2,x2_3,x2_4,x2_5⟩ S q _ (StoreAt.bel bl HS.out) ⟨g2_0,g2_1,g2_2,GT2.out,g2_4,g2_5⟩).mono ?_);rintro e wi2 ⟨rfl,hbi2⟩;rw[H_in2.out];(have hzi2:=hbi2.sz;obtain⟨hki2_0,hfi2_0,hli2_0,hni2_0⟩:=hbi2.lay (w.heap.size);obtain⟨hki2_1,hfi2_1,hli2_1,hni2_1⟩:=hbi2.lay (q);obtain⟨hki2_2,hfi2_2,hli2_2,hni2_2⟩:=hbi2.lay (b1))) | (go_at_call 19;(with_reducible refine (specIn_any (TStore.mk x0 x1 x2 x3 x4 x5 x6 x7 x8 x9 x10 x11 x12) ⟨1,x3_1,x3_2,x3_3,x3_4,x3_5⟩ S q _ (StoreAt.bel bl HS.out) ⟨g3_0,g3_1,g3_2,GT3.out,g3_4,g3_5⟩).mono ?_);rintro e wi3 ⟨rfl,hbi3⟩;rw[H_in3.out];(have hzi3:=hbi3.sz;obtain⟨hki3_0,hfi3_0,hli3_0,hni3_0⟩:=hbi3.lay (w.heap.size);obtain⟨hki3_1,hfi3_1,hli3_1,hni3_1⟩:=hbi3.lay (q);obtain⟨hki3_2,hfi3_2,hli3_2,hni3_2⟩:=hbi3.lay (b1)))))
  all_goals
   go_returns
   exact⟨by rw[RR.out];first | done | rfl,bl⟩):p:=h
theorem rk23 {p:Prop} (h:p:=by
  clear hbw0
  go_enter Tryd.func47,Tryd.ntmps47
  go_wp2_with (fail)
  repeat (any_goals (go_quiet (fail);(try go_wp2_with (fail))))
  go_loopw [80] (fun v wr=>v=.int .i64 0∧Bel w wr) (fun _ _=>0)
  case atStart=>exact⟨rfl,bl⟩
  case round =>
   obtain⟨rfl,hbw⟩:=hrel
   go_wp2_with (fail)
   repeat (any_goals (go_quiet (fail);(try go_wp2_with (fail))))
   all_goals
    go_returns
    exact⟨ret_bl HP.out.symm,bl⟩):p:=h
theorem rk24 {p:Prop} (h:p:=by
  have e_tag:(tag==0)=true:=by rw[beq_iff_eq];omega
  have n_tag:(tag != 0)=false:=by rw[bne_eq_false_iff_eq];omega
  have l_key40:decide ((keys.length:Int)≤40)=true:=decide_eq_true (by omega)
  have g_key40:decide (40<(keys.length:Int))=false:=decide_eq_false (by omega)
  have e_itk:((its.length:Int)==(keys.length:Int)+1)=true:=by rw[beq_iff_eq];omega
  have e_itk2:((its.length:Int)==1+(keys.length:Int))=true:=by rw[beq_iff_eq];omega
  have H_alli:=hide h_alli
  have H_allk:=hide h_allk
  have H_dis:=hide h_dis
  clear h_tag h_itk h_alli h_allk h_dis
  go_enter Tryd.func40,Tryd.ntmps40
  have mkq:=True.intro
  repeat (any_goals ((first | clear mkq | go_quiet (fail));(try go_wp2_with (first | (go_at_call 41;(with_reducible refine (specAll_any (TStore.mk x0 x1 x2 x3 x4 x5 x6 x7 x8 x9 x10 x11 x12) its S S' q _ _ _ (StoreAt.bel bl HS.out) (Row.bel bl HRi.out)).mono ?_);rintro e wai ⟨rfl,hbai⟩;rw[H_alli.out];(have hzai:=hbai.sz;obtain⟨hkai_0,hfai_0,hlai_0,hnai_0⟩:=hbai.lay (w.heap.size);obtain⟨hkai_1,hfai_1,hlai_1,hnai_1⟩:=hbai.lay (q))) | (go_at_call 41;(with_reducible refine (specAll_any (TStore.mk x0 x1 x2 x3 x4 x5 x6 x7 x8 x9 x10 x11 x12) keys S S' q _ _ _ (StoreAt.bel bl HS.out) (Row.bel bl HRk.out)).mono ?_);rintro e wak ⟨rfl,hbak⟩;rw[H_allk.out];(have hzak:=hbak.sz;obtain⟨hkak_0,hfak_0,hlak_0,hnak_0⟩:=hbak.lay (w.heap.size);obtain⟨hkak_1,hfak_1,hlak_1,hnak_1⟩:=hbak.lay (q))) | (go_at_call 65;(with_reducible refine (specDist_any keys S' _ _ _ (Row.bel bl HRk.out)).mono ?_);rintro e wdk ⟨rfl,hbdk⟩;rw[H_dis.out];(have hzdk:=hbdk.sz;obtain⟨hkdk_0,hfdk_0,hldk_0,hndk_0⟩:=hbdk.lay (w.heap.size);obtain⟨hkdk_1,hfdk_1,hldk_1,hndk_1⟩:=hbdk.lay (q)))))))
  all_goals
   go_returns
   exact⟨by rw[RR.out];first | done | rfl,bl⟩):p:=h
theorem rk25 {p:Prop} (h:p:=by
  have H_pat:=hide h_pat
  clear h_key0 h_pat
  go_enter Tryd.func24,Tryd.ntmps24
  have mkq:=True.intro
  repeat (any_goals ((first | clear mkq | go_quiet (fail));(try go_wp2_with (first | (go_at_call 47;refine (implPat_any (TStore.mk x0 x1 x2 x3 x4 x5 x6 x7 x8 x9 x10 x11 x12) tag its S S' q _ _ _ (StoreAt.bel bl HS.out) (Row.bel bl HRi.out)).mono ?_;rintro e wp ⟨rfl,hbp⟩;rw[H_pat.out];(have hzp:=hbp.sz;obtain⟨hkp_0,hfp_0,hlp_0,hnp_0⟩:=hbp.lay (w.heap.size);obtain⟨hkp_1,hfp_1,hlp_1,hnp_1⟩:=hbp.lay (q)))))))
  all_goals
   go_returns
   exact⟨by rw[RR.out];first | done | rfl,bl⟩):p:=h
theorem rk26 {p:Prop} (h:p:=by
  have e_key0:((keys.length:Int)==0)=true:=by rw[beq_iff_eq];omega
  have n_key0:((keys.length:Int) != 0)=false:=by rw[bne_eq_false_iff_eq];omega
  have l_t0:decide (0≤tag)=true:=decide_eq_true (by omega)
  have l_t1:decide (tag<(x1.length:Int))=true:=decide_eq_true (by omega)
  have e_fl:((its.length:Int)==(x4_1.length:Int))=true:=by rw[beq_iff_eq];omega
  clear hx
  subst hm
  have H_alli:=hide h_alli
  clear h_key0 h_t0 h_t1 h_fl h_alli
  go_enter Tryd.func40,Tryd.ntmps40
  go_wp2_with (fail)
  repeat (any_goals (go_quiet (fail);(try go_wp2_with (fail))))
  go_region_held3 (fun w'=>w'.cell? ⟨w.heap.size,0,none⟩=some (.int .i64 5)∧w'.cell? ⟨w.heap.size,1,none⟩=some (.int .i64 (m:Int))∧w'.cell? ⟨w.heap.size,3,none⟩=some (.slice Ai its.length ci)∧w'.cell? ⟨w.heap.size,4,none⟩=some (.slice Ak keys.length ck)∧w'.cell? ⟨q,1,none⟩=some (.slice (some ⟨b4,o4,none⟩) x1.length c1)∧w'.cell? ⟨b4,o4+m*3+1,none⟩=some (.slice A4_1 x4_1.length C4_1)) (go_keep) (first | (go_at_call 41;(with_reducible refine (specAll_any (TStore.mk x0 x1 x2 x3 x4 x5 x6 x7 x8 x9 x10 x11 x12) its S S' q _ _ _ (StoreAt.bel bl HS.out) (Row.bel bl HRi.out)).mono ?_);rintro e wai ⟨rfl,hbai⟩;rw[H_alli.out];(have hzai:=hbai.sz;obtain⟨hkai_0,hfai_0,hlai_0,hnai_0⟩:=hbai.lay (w.heap.size);obtain⟨hkai_1,hfai_1,hlai_1,hnai_1⟩:=hbai.lay (q);obtain⟨hkai_2,hfai_2,hlai_2,hnai_2⟩:=hbai.lay (b4))))
  all_goals
   (try go_wp2_with (fail))
  all_goals
   go_returns
   exact⟨by rw[RR.out];first | done | rfl,bl⟩):p:=h
theorem rk27 {p:Prop} (h:p:=by
  have e_tag:(tag==0)=true:=by rw[beq_iff_eq];omega
  have n_tag:(tag != 0)=false:=by rw[bne_eq_false_iff_eq];omega
  have e_key0:((keys.length:Int)==0)=true:=by rw[beq_iff_eq];omega
  have n_key0:((keys.length:Int) != 0)=false:=by rw[bne_eq_false_iff_eq];omega
  have H_in1:=hide h_in1
  have H_in2:=hide h_in2
  clear h_tag h_key0 h_in1 h_in2
  go_enter Tryd.func40,Tryd.ntmps40
  have mkq:=True.intro
  repeat (any_goals ((first | clear mkq | go_quiet (fail));(try go_wp2_with (first | (go_at_call 19;(with_reducible refine (specIn_any (TStore.mk x0 x1 x2 x3 x4 x5 x6 x7 x8 x9 x10 x11 x12) ⟨5,x1_1,x1_2,x1_3,x1_4,x1_5⟩ S q _ (StoreAt.bel bl HS.out) ⟨g1_0,g1_1,g1_2,GT1.out,g1_4,g1_5⟩).mono ?_);rintro e wi1 ⟨rfl,hbi1⟩;rw[H_in1.out];(have hzi1:=hbi1.sz;obtain⟨hki1_0,hfi1_0,hli1_0,hni1_0⟩:=hbi1.lay (w.heap.size);obtain⟨hki1_1,hfi1_1,hli1_1,hni1_1⟩:=hbi1.lay (q);obtain⟨hki1_2,hfi1_2,hli1_2,hni1_2⟩:=hbi1.lay (b1))) | (go_at_call 15;(with_reducible refine (specData_any (TStore.mk x0 x1 x2 x3 x4 x5 x6 x7 x8 x9 x10 x11 x12) ⟨x2_0,x2_1,x2_2,x2_3,x2_4,x2_5⟩ S q _ (StoreAt.bel bl HS.out) ⟨g2_0,g2_1,g2_2,GT2.out,g2_4,g2_5⟩).mono ?_);rintro e wi2 ⟨rfl,hbi2⟩;rw[H_in2.out];(have hzi2:=hbi2.sz;obtain⟨hki2_0,hfi2_0,hli2_0,hni2_0⟩:=hbi2.lay (w.heap.size);obtain⟨hki2_1,hfi2_1,hli2_1,hni2_1⟩:=hbi2.lay (q);obtain⟨hki2_2,hfi2_2,hli2_2,hni2_2⟩:=hbi2.lay (b1)))))))
  all_goals
   go_returns
   exact⟨by rw[RR.out];first | done | rfl,bl⟩):p:=h
theorem rk28 {p:Prop} (h:p:=by
  have HQ:=hide (fun (wx:World) (hx:Bel w wx)=>(by have:=hasObject_q (TStore.mk x0 x1 x2 x3 x4 x5 x6 x7 x8 x9 x10 x11 x12) (m:Int) 1 S q wx (StoreAt.bel hx HSt.out);rw[HH.out]at this;exact this))
  go_enter Tryd.func30,Tryd.ntmps30
  go_wp2_with (first | (go_at_call 59;refine (implIsWellFormed_any _ _ hv).mono ?_;rintro e w1 ⟨rfl,hb1⟩;(have hz1:=hb1.sz;obtain⟨hk1_0,hf1_0,hl1_0,hn1_0⟩:=hb1.lay (w.heap.size);obtain⟨hk1_1,hf1_1,hl1_1,hn1_1⟩:=hb1.lay (q);obtain⟨hk1_2,hf1_2,hl1_2,hn1_2⟩:=hb1.lay (b1));rw[HW.out])) 
  go_quiet ((go_at_call 22;refine Calls.quiet_of (HQ.out _ bl)))
  go_wp2_with (fail)
  repeat (any_goals (go_quiet (fail);(try go_wp2_with (fail))))
  all_goals
   go_returns
   exact⟨by rw[RR.out];first | done | rfl,bl⟩):p:=h
theorem rk29 {p:Prop} (h:p:=by
  have HQ:=hide (fun (wx:World) (hx:Bel w wx)=>(by have:=hasObject_q (TStore.mk x0 x1 x2 x3 x4 x5 x6 x7 x8 x9 x10 x11 x12) (m:Int) 5 S q wx (StoreAt.bel hx HSt.out);rw[HH.out]at this;exact this))
  go_enter Tryd.func30,Tryd.ntmps30
  go_wp2_with (first | (go_at_call 59;refine (implIsWellFormed_any _ _ hv).mono ?_;rintro e w1 ⟨rfl,hb1⟩;(have hz1:=hb1.sz;obtain⟨hk1_0,hf1_0,hl1_0,hn1_0⟩:=hb1.lay (w.heap.size);obtain⟨hk1_1,hf1_1,hl1_1,hn1_1⟩:=hb1.lay (q);obtain⟨hk1_2,hf1_2,hl1_2,hn1_2⟩:=hb1.lay (b1));rw[HW.out])) 
  go_quiet ((go_at_call 22;refine Calls.quiet_of (HQ.out _ bl)))
  go_wp2_with (fail)
  repeat (any_goals (go_quiet (fail);(try go_wp2_with (fail))))
  all_goals
   go_returns
   exact⟨by rw[RR.out];first | done | rfl,bl⟩):p:=h
theorem rk30 {p:Prop} (h:p:=by
  have e_tag:(tag==0)=true:=by rw[beq_iff_eq];omega
  have n_tag:(tag != 0)=false:=by rw[bne_eq_false_iff_eq];omega
  have l_key40:decide ((keys.length:Int)≤40)=true:=decide_eq_true (by omega)
  have g_key40:decide (40<(keys.length:Int))=false:=decide_eq_false (by omega)
  have e_it0:((its.length:Int)==0)=true:=by rw[beq_iff_eq];omega
  have n_it0:((its.length:Int) != 0)=false:=by rw[bne_eq_false_iff_eq];omega
  have H_allk:=hide h_allk
  have H_dis:=hide h_dis
  clear h_tag h_key40 h_it0 h_allk h_dis
  go_enter Tryd.func40,Tryd.ntmps40
  have mkq:=True.intro
  repeat (any_goals ((first | clear mkq | go_quiet (fail));(try go_wp2_with (first | (go_at_call 41;(with_reducible refine (specAll_any (TStore.mk x0 x1 x2 x3 x4 x5 x6 x7 x8 x9 x10 x11 x12) keys S S' q _ _ _ (StoreAt.bel bl HS.out) (Row.bel bl HRk.out)).mono ?_);rintro e wak ⟨rfl,hbak⟩;rw[H_allk.out];(have hzak:=hbak.sz;obtain⟨hkak_0,hfak_0,hlak_0,hnak_0⟩:=hbak.lay (w.heap.size);obtain⟨hkak_1,hfak_1,hlak_1,hnak_1⟩:=hbak.lay (q))) | (go_at_call 65;(with_reducible refine (specDist_any keys S' _ _ _ (Row.bel bl HRk.out)).mono ?_);rintro e wdk ⟨rfl,hbdk⟩;rw[H_dis.out];(have hzdk:=hbdk.sz;obtain⟨hkdk_0,hfdk_0,hldk_0,hndk_0⟩:=hbdk.lay (w.heap.size);obtain⟨hkdk_1,hfdk_1,hldk_1,hndk_1⟩:=hbdk.lay (q)))))))
  all_goals
   go_returns
   exact⟨by rw[RR.out];first | done | rfl,bl⟩):p:=h
theorem rk31 {p:Prop} (h:p:=by
  go_enter Tryd.func40,Tryd.ntmps40
  (go_wp2_with (fail))
  go_quiet (fail)
  go_upto_region 20 with (fail)
  simp only[List.append]
  (go_wp2_with (fail))
  all_goals
   go_returns
   exact⟨by rw[RR.out];first | done | rfl,bl⟩):p:=h
theorem rk32 {p:Prop} (h:p:=by
  rcases hb with hb | hb
  ·
   rcases hbl b hb with e | e
   ·
    exact Or.inl (Or.inl e)
   ·
    refine Or.inr ⟨by omega,fun f hf hc=>?_⟩
    have:=(HH.out.ents.own f (by rcases List.mem_append.1 hf with hf | hf;exact List.mem_append.2 (Or.inl hf);exact List.mem_append.2 (Or.inr (List.mem_cons_of_mem _ hf)))).lt b hc
    omega
  ·
   rcases List.mem_append.1 hb with hb | hb
   ·
    exact Or.inl (Or.inr hb)
   ·
    exact Or.inr ⟨(HM.out b hb).1,fun f hf=>(HM.out b hb).2.2 f (by rcases List.mem_append.1 hf with hf | hf;exact List.mem_append.2 (Or.inl hf);exact List.mem_append.2 (Or.inr (List.mem_cons_of_mem _ hf)))⟩):p:=h
theorem rk33 {p:Prop} (h:p:=by
  go_enter Tryd.func19,Tryd.ntmps19
  have mkq:=True.intro
  repeat (any_goals ((first | clear mkq | go_quiet (fail));(try go_wp2_with (first | (go_at_call 42;refine (specIsWellFormed_any _ _ hv).mono ?_;rintro e w1 ⟨rfl,hb1⟩;(have hz1:=hb1.sz;obtain⟨hk1_0,hf1_0,hl1_0,hn1_0⟩:=hb1.lay (w.heap.size);obtain⟨hk1_1,hf1_1,hl1_1,hn1_1⟩:=hb1.lay (q);obtain⟨hk1_2,hf1_2,hl1_2,hn1_2⟩:=hb1.lay (b1));rw[HW.out]) | (go_at_call 43;refine (specKind_any _ _).mono ?_;rintro e w2 ⟨rfl,rfl⟩;rw[kindI_13])))))
  all_goals
   go_returns
   exact⟨by rw[RR.out];first | done | rfl,bl⟩):p:=h
theorem rk34 {p:Prop} (h:p:=by
  go_enter Tryd.func19,Tryd.ntmps19
  have mkq:=True.intro
  repeat (any_goals ((first | clear mkq | go_quiet (fail));(try go_wp2_with (first | (go_at_call 42;refine (specIsWellFormed_any _ _ hv).mono ?_;rintro e w1 ⟨rfl,hb1⟩;(have hz1:=hb1.sz;obtain⟨hk1_0,hf1_0,hl1_0,hn1_0⟩:=hb1.lay (w.heap.size);obtain⟨hk1_1,hf1_1,hl1_1,hn1_1⟩:=hb1.lay (q);obtain⟨hk1_2,hf1_2,hl1_2,hn1_2⟩:=hb1.lay (b1));rw[HW.out]) | (go_at_call 43;refine (specKind_any _ _).mono ?_;rintro e w2 ⟨rfl,rfl⟩;rw[kindI_16])))))
  all_goals
   go_returns
   exact⟨by rw[RR.out];first | done | rfl,bl⟩):p:=h
theorem rk35 {p:Prop} (h:p:=by
  clear hw
  go_enter Tryd.func19,Tryd.ntmps19
  have mkq:=True.intro
  repeat (any_goals ((first | clear mkq | go_quiet (fail));(try go_wp2_with (first | (go_at_call 42;refine (specIsWellFormed_any _ _ hv).mono ?_;rintro e w1 ⟨rfl,hb1⟩;(have hz1:=hb1.sz;obtain⟨hk1_0,hf1_0,hl1_0,hn1_0⟩:=hb1.lay (w.heap.size);obtain⟨hk1_1,hf1_1,hl1_1,hn1_1⟩:=hb1.lay (q));rw[HW.out]) | (go_at_call 43;refine (specKind_any _ _).mono ?_;rintro e w2 ⟨rfl,rfl⟩;rw[kindI_10])))))
  all_goals
   go_returns
   exact⟨by rw[RR.out];first | done | rfl,bl⟩):p:=h
theorem rk36 {p:Prop} (h:p:=by
  clear hw
  go_enter Tryd.func19,Tryd.ntmps19
  have mkq:=True.intro
  repeat (any_goals ((first | clear mkq | go_quiet (fail));(try go_wp2_with (first | (go_at_call 42;refine (specIsWellFormed_any _ _ hv).mono ?_;rintro e w1 ⟨rfl,hb1⟩;(have hz1:=hb1.sz;obtain⟨hk1_0,hf1_0,hl1_0,hn1_0⟩:=hb1.lay (w.heap.size);obtain⟨hk1_1,hf1_1,hl1_1,hn1_1⟩:=hb1.lay (q));rw[HW.out]) | (go_at_call 43;refine (specKind_any _ _).mono ?_;rintro e w2 ⟨rfl,rfl⟩;rw[kindI_14])))))
  all_goals
   go_returns
   exact⟨by rw[RR.out];first | done | rfl,bl⟩):p:=h
theorem rk37 {p:Prop} (h:p:=by
  clear hw
  go_enter Tryd.func19,Tryd.ntmps19
  have mkq:=True.intro
  repeat (any_goals ((first | clear mkq | go_quiet (fail));(try go_wp2_with (first | (go_at_call 42;refine (specIsWellFormed_any _ _ hv).mono ?_;rintro e w1 ⟨rfl,hb1⟩;(have hz1:=hb1.sz;obtain⟨hk1_0,hf1_0,hl1_0,hn1_0⟩:=hb1.lay (w.heap.size);obtain⟨hk1_1,hf1_1,hl1_1,hn1_1⟩:=hb1.lay (q));rw[HW.out]) | (go_at_call 43;refine (specKind_any _ _).mono ?_;rintro e w2 ⟨rfl,rfl⟩;rw[kindI_0])))))
  all_goals
   go_returns
   exact⟨by rw[RR.out];first | done | rfl,bl⟩):p:=h
theorem rk38 {p:Prop} (h:p:=by
  clear hw
  go_enter Tryd.func19,Tryd.ntmps19
  have mkq:=True.intro
  repeat (any_goals ((first | clear mkq | go_quiet (fail));(try go_wp2_with (first | (go_at_call 42;refine (specIsWellFormed_any _ _ hv).mono ?_;rintro e w1 ⟨rfl,hb1⟩;(have hz1:=hb1.sz;obtain⟨hk1_0,hf1_0,hl1_0,hn1_0⟩:=hb1.lay (w.heap.size);obtain⟨hk1_1,hf1_1,hl1_1,hn1_1⟩:=hb1.lay (q));rw[HW.out]) | (go_at_call 43;refine (specKind_any _ _).mono ?_;rintro e w2 ⟨rfl,rfl⟩;rw[kindI_8])))))
  all_goals
   go_returns
   exact⟨by rw[RR.out];first | done | rfl,bl⟩):p:=h
theorem rk39 {p:Prop} (h:p:=by
  clear hw
  go_enter Tryd.func19,Tryd.ntmps19
  have mkq:=True.intro
  repeat (any_goals ((first | clear mkq | go_quiet (fail));(try go_wp2_with (first | (go_at_call 42;refine (specIsWellFormed_any _ _ hv).mono ?_;rintro e w1 ⟨rfl,hb1⟩;(have hz1:=hb1.sz;obtain⟨hk1_0,hf1_0,hl1_0,hn1_0⟩:=hb1.lay (w.heap.size);obtain⟨hk1_1,hf1_1,hl1_1,hn1_1⟩:=hb1.lay (q));rw[HW.out]) | (go_at_call 43;refine (specKind_any _ _).mono ?_;rintro e w2 ⟨rfl,rfl⟩;rw[kindI_9])))))
  all_goals
   go_returns
   exact⟨by rw[RR.out];first | done | rfl,bl⟩):p:=h
theorem rk40 {p:Prop} (h:p:=by
  clear hl
  go_enter Tryd.func66,Tryd.ntmps66
  have mkq:=True.intro
  repeat (any_goals ((first | clear mkq | go_quiet (fail));(try go_wp2_with (go_at_call 54;refine (patItems_any tag _).mono ?_;rintro e w1 ⟨AK,cK,rfl,hRK,hb1⟩;(try simp only[List.length_map]);clear hRK;(have hz1:=hb1.sz;obtain⟨hk1_0,hf1_0,hl1_0,hn1_0⟩:=hb1.lay (w.heap.size);obtain⟨hk1_1,hf1_1,hl1_1,hn1_1⟩:=hb1.lay (q))))))
  all_goals
   go_returns
   exact⟨by rw[RR.out];first | done | rfl,bl⟩):p:=h
theorem rk41 {p:Prop} (h:p:=by
  have HI:=hide hi
  clear hb hi
  go_enter Tryd.func8,Tryd.ntmps8
  have mkq:=True.intro
  repeat (any_goals ((first | clear mkq | go_quiet (fail));(try go_wp2_with (first | (go_at_call 18;refine (specValid_any (TStore.mk x0 x1 x2 x3 x4 x5 x6 x7 x8 x9 x10 x11 x12) S _ _ (Dat.HoldVals.bel bl HV.out)).mono ?_;rintro e w1 ⟨rfl,hb1⟩;rw[HB.out];(have hz1:=hb1.sz;obtain⟨hk1_0,hf1_0,hl1_0,hn1_0⟩:=hb1.lay (w.heap.size);obtain⟨hk1_1,hf1_1,hl1_1,hn1_1⟩:=hb1.lay (w.heap.size+1))) | (go_at_call 19;refine (specIn_any (TStore.mk x0 x1 x2 x3 x4 x5 x6 x7 x8 x9 x10 x11 x12) ⟨k0,n0,i0,t0,lo0,hi0⟩ S w.heap.size _ (StoreAt.bel bl HS1.out) HX.out).mono ?_;rintro e w2 ⟨rfl,hb2⟩;rw[HI.out])))))
  all_goals
   go_returns
   exact⟨by rw[RR.out];first | done | rfl,bl⟩):p:=h
theorem rk42 {p:Prop} (h:p:=by
  have e_key0:((keys.length:Int)==0)=true:=by rw[beq_iff_eq];omega
  have n_key0:((keys.length:Int) != 0)=false:=by rw[bne_eq_false_iff_eq];omega
  have H_pat:=hide h_pat
  clear h_key0 h_pat
  go_enter Tryd.func40,Tryd.ntmps40
  have mkq:=True.intro
  repeat (any_goals ((first | clear mkq | go_quiet (fail));(try go_wp2_with (first | (go_at_call 66;refine (specPat_any (TStore.mk x0 x1 x2 x3 x4 x5 x6 x7 x8 x9 x10 x11 x12) 7 tag ser its keys S S' q _ _ _ _ _ (StoreAt.bel bl HS.out) (Row.bel bl HRi.out)).mono ?_;rintro e wp ⟨rfl,hbp⟩;rw[H_pat.out];(have hzp:=hbp.sz;obtain⟨hkp_0,hfp_0,hlp_0,hnp_0⟩:=hbp.lay (w.heap.size);obtain⟨hkp_1,hfp_1,hlp_1,hnp_1⟩:=hbp.lay (q)))))))
  all_goals
   go_returns
   exact⟨by rw[RR.out];first | done | rfl,bl⟩):p:=h
theorem rk43 {p:Prop} (h:p:=by
  go_enter Tryd.func22,Tryd.ntmps22
  go_wp2_with (fail)
  repeat (any_goals (go_quiet (fail);(try go_wp2_with (fail))))
  all_goals
   go_returns
   first | exact⟨by rw[RR.out];first | done | rfl,_,rfl⟩ | exact⟨by rw[RR.out];first | done | rfl,0,rfl⟩):p:=h
theorem rk44 {p:Prop} (h:p:=by
  go_enter Tryd.func19,Tryd.ntmps19
  have mkq:=True.intro
  repeat (any_goals ((first | clear mkq | go_quiet (fail));(try go_wp2_with (first | (go_at_call 42;refine (specIsWellFormed_any _ _ hv).mono ?_;rintro e w1 ⟨rfl,hb1⟩;(have hz1:=hb1.sz;obtain⟨hk1_0,hf1_0,hl1_0,hn1_0⟩:=hb1.lay (w.heap.size);obtain⟨hk1_1,hf1_1,hl1_1,hn1_1⟩:=hb1.lay (q);obtain⟨hk1_2,hf1_2,hl1_2,hn1_2⟩:=hb1.lay (b1));rw[HW.out]) | (go_at_call 43;refine (specKind_any _ _).mono ?_;rintro e w2 ⟨rfl,rfl⟩;rw[kindI_11])))))
  all_goals
   go_returns
   exact⟨by rw[RR.out];first | done | rfl,bl⟩):p:=h
theorem rk45 {p:Prop} (h:p:=by
  go_enter Tryd.func19,Tryd.ntmps19
  have mkq:=True.intro
  repeat (any_goals ((first | clear mkq | go_quiet (fail));(try go_wp2_with (first | (go_at_call 42;refine (specIsWellFormed_any _ _ hv).mono ?_;rintro e w1 ⟨rfl,hb1⟩;(have hz1:=hb1.sz;obtain⟨hk1_0,hf1_0,hl1_0,hn1_0⟩:=hb1.lay (w.heap.size);obtain⟨hk1_1,hf1_1,hl1_1,hn1_1⟩:=hb1.lay (q);obtain⟨hk1_2,hf1_2,hl1_2,hn1_2⟩:=hb1.lay (b1));rw[HW.out]) | (go_at_call 43;refine (specKind_any _ _).mono ?_;rintro e w2 ⟨rfl,rfl⟩;rw[kindI_12])))))
  all_goals
   go_returns
   exact⟨by rw[RR.out];first | done | rfl,bl⟩):p:=h
theorem rk46 {p:Prop} (h:p:=by
  go_enter Tryd.func19,Tryd.ntmps19
  have mkq:=True.intro
  repeat (any_goals ((first | clear mkq | go_quiet (fail));(try go_wp2_with (first | (go_at_call 42;refine (specIsWellFormed_any _ _ hv).mono ?_;rintro e w1 ⟨rfl,hb1⟩;(have hz1:=hb1.sz;obtain⟨hk1_0,hf1_0,hl1_0,hn1_0⟩:=hb1.lay (w.heap.size);obtain⟨hk1_1,hf1_1,hl1_1,hn1_1⟩:=hb1.lay (q);obtain⟨hk1_2,hf1_2,hl1_2,hn1_2⟩:=hb1.lay (b1));rw[HW.out]) | (go_at_call 43;refine (specKind_any _ _).mono ?_;rintro e w2 ⟨rfl,rfl⟩;rw[kindI_15])))))
  all_goals
   go_returns
   exact⟨by rw[RR.out];first | done | rfl,bl⟩):p:=h
theorem rk47 {p:Prop} (h:p:=by
  go_enter Tryd.func19,Tryd.ntmps19
  have mkq:=True.intro
  repeat (any_goals ((first | clear mkq | go_quiet (fail));(try go_wp2_with (first | (go_at_call 42;refine (specIsWellFormed_any _ _ hv).mono ?_;rintro e w1 ⟨rfl,hb1⟩;(have hz1:=hb1.sz;obtain⟨hk1_0,hf1_0,hl1_0,hn1_0⟩:=hb1.lay (w.heap.size);obtain⟨hk1_1,hf1_1,hl1_1,hn1_1⟩:=hb1.lay (q);obtain⟨hk1_2,hf1_2,hl1_2,hn1_2⟩:=hb1.lay (b1));rw[HW.out]) | (go_at_call 43;refine (specKind_any _ _).mono ?_;rintro e w2 ⟨rfl,rfl⟩;rw[kindI_17])))))
  all_goals
   go_returns
   exact⟨by rw[RR.out];first | done | rfl,bl⟩):p:=h
theorem rk48 {p:Prop} (h:p:=by
  go_enter Tryd.func19,Tryd.ntmps19
  have mkq:=True.intro
  repeat (any_goals ((first | clear mkq | go_quiet (fail));(try go_wp2_with (first | (go_at_call 42;refine (specIsWellFormed_any _ _ hv).mono ?_;rintro e w1 ⟨rfl,hb1⟩;(have hz1:=hb1.sz;obtain⟨hk1_0,hf1_0,hl1_0,hn1_0⟩:=hb1.lay (w.heap.size);obtain⟨hk1_1,hf1_1,hl1_1,hn1_1⟩:=hb1.lay (q);obtain⟨hk1_2,hf1_2,hl1_2,hn1_2⟩:=hb1.lay (b1));rw[HW.out]) | (go_at_call 43;refine (specKind_any _ _).mono ?_;rintro e w2 ⟨rfl,rfl⟩;rw[kindI_19])))))
  all_goals
   go_returns
   exact⟨by rw[RR.out];first | done | rfl,bl⟩):p:=h
theorem rk49 {p:Prop} (h:p:=by
  go_enter Tryd.func19,Tryd.ntmps19
  have mkq:=True.intro
  repeat (any_goals ((first | clear mkq | go_quiet (fail));(try go_wp2_with (first | (go_at_call 42;refine (specIsWellFormed_any _ _ hv).mono ?_;rintro e w1 ⟨rfl,hb1⟩;(have hz1:=hb1.sz;obtain⟨hk1_0,hf1_0,hl1_0,hn1_0⟩:=hb1.lay (w.heap.size);obtain⟨hk1_1,hf1_1,hl1_1,hn1_1⟩:=hb1.lay (q);obtain⟨hk1_2,hf1_2,hl1_2,hn1_2⟩:=hb1.lay (b1));rw[HW.out]) | (go_at_call 43;refine (specKind_any _ _).mono ?_;rintro e w2 ⟨rfl,rfl⟩;rw[kindI_20])))))
  all_goals
   go_returns
   exact⟨by rw[RR.out];first | done | rfl,bl⟩):p:=h
theorem rk50 {p:Prop} (h:p:=by
  go_enter Tryd.func19,Tryd.ntmps19
  have mkq:=True.intro
  repeat (any_goals ((first | clear mkq | go_quiet (fail));(try go_wp2_with (first | (go_at_call 42;refine (specIsWellFormed_any _ _ hv).mono ?_;rintro e w1 ⟨rfl,hb1⟩;(have hz1:=hb1.sz;obtain⟨hk1_0,hf1_0,hl1_0,hn1_0⟩:=hb1.lay (w.heap.size);obtain⟨hk1_1,hf1_1,hl1_1,hn1_1⟩:=hb1.lay (q);obtain⟨hk1_2,hf1_2,hl1_2,hn1_2⟩:=hb1.lay (b1));rw[HW.out]) | (go_at_call 43;refine (specKind_any _ _).mono ?_;rintro e w2 ⟨rfl,rfl⟩;rw[kindI_4])))))
  all_goals
   go_returns
   exact⟨by rw[RR.out];first | done | rfl,bl⟩):p:=h
theorem rk51 {p:Prop} (h:p:=by
  go_enter Tryd.func19,Tryd.ntmps19
  have mkq:=True.intro
  repeat (any_goals ((first | clear mkq | go_quiet (fail));(try go_wp2_with (first | (go_at_call 42;refine (specIsWellFormed_any _ _ hv).mono ?_;rintro e w1 ⟨rfl,hb1⟩;(have hz1:=hb1.sz;obtain⟨hk1_0,hf1_0,hl1_0,hn1_0⟩:=hb1.lay (w.heap.size);obtain⟨hk1_1,hf1_1,hl1_1,hn1_1⟩:=hb1.lay (q);obtain⟨hk1_2,hf1_2,hl1_2,hn1_2⟩:=hb1.lay (b1));rw[HW.out]) | (go_at_call 43;refine (specKind_any _ _).mono ?_;rintro e w2 ⟨rfl,rfl⟩;rw[kindI_5])))))
  all_goals
   go_returns
   exact⟨by rw[RR.out];first | done | rfl,bl⟩):p:=h
theorem rk52 {p:Prop} (h:p:=by
  go_enter Tryd.func19,Tryd.ntmps19
  have mkq:=True.intro
  repeat (any_goals ((first | clear mkq | go_quiet (fail));(try go_wp2_with (first | (go_at_call 42;refine (specIsWellFormed_any _ _ hv).mono ?_;rintro e w1 ⟨rfl,hb1⟩;(have hz1:=hb1.sz;obtain⟨hk1_0,hf1_0,hl1_0,hn1_0⟩:=hb1.lay (w.heap.size);obtain⟨hk1_1,hf1_1,hl1_1,hn1_1⟩:=hb1.lay (q);obtain⟨hk1_2,hf1_2,hl1_2,hn1_2⟩:=hb1.lay (b1));rw[HW.out]) | (go_at_call 43;refine (specKind_any _ _).mono ?_;rintro e w2 ⟨rfl,rfl⟩;rw[kindI_6])))))
  all_goals
   go_returns
   exact⟨by rw[RR.out];first | done | rfl,bl⟩):p:=h
theorem rk53 {p:Prop} (h:p:=by
  go_enter Tryd.func19,Tryd.ntmps19
  have mkq:=True.intro
  repeat (any_goals ((first | clear mkq | go_quiet (fail));(try go_wp2_with (first | (go_at_call 42;refine (specIsWellFormed_any _ _ hv).mono ?_;rintro e w1 ⟨rfl,hb1⟩;(have hz1:=hb1.sz;obtain⟨hk1_0,hf1_0,hl1_0,hn1_0⟩:=hb1.lay (w.heap.size);obtain⟨hk1_1,hf1_1,hl1_1,hn1_1⟩:=hb1.lay (q);obtain⟨hk1_2,hf1_2,hl1_2,hn1_2⟩:=hb1.lay (b1));rw[HW.out]) | (go_at_call 43;refine (specKind_any _ _).mono ?_;rintro e w2 ⟨rfl,rfl⟩;rw[kindI_7])))))
  all_goals
   go_returns
   exact⟨by rw[RR.out];first | done | rfl,bl⟩):p:=h
theorem rk54 {p:Prop} (h:p:=by
  clear hw
  go_enter Tryd.func19,Tryd.ntmps19
  have mkq:=True.intro
  repeat (any_goals ((first | clear mkq | go_quiet (fail));(try go_wp2_with (first | (go_at_call 42;refine (specIsWellFormed_any _ _ hv).mono ?_;rintro e w1 ⟨rfl,hb1⟩;(have hz1:=hb1.sz;obtain⟨hk1_0,hf1_0,hl1_0,hn1_0⟩:=hb1.lay (w.heap.size);obtain⟨hk1_1,hf1_1,hl1_1,hn1_1⟩:=hb1.lay (q));rw[HW.out]) | (go_at_call 43;refine (specKind_any _ _).mono ?_;rintro e w2 ⟨rfl,rfl⟩;rw[kindI_18])))))
  all_goals
   go_returns
   exact⟨by rw[RR.out];first | done | rfl,bl⟩):p:=h
theorem rk55 {p:Prop} (h:p:=by
  clear hw
  go_enter Tryd.func19,Tryd.ntmps19
  have mkq:=True.intro
  repeat (any_goals ((first | clear mkq | go_quiet (fail));(try go_wp2_with (first | (go_at_call 42;refine (specIsWellFormed_any _ _ hv).mono ?_;rintro e w1 ⟨rfl,hb1⟩;(have hz1:=hb1.sz;obtain⟨hk1_0,hf1_0,hl1_0,hn1_0⟩:=hb1.lay (w.heap.size);obtain⟨hk1_1,hf1_1,hl1_1,hn1_1⟩:=hb1.lay (q));rw[HW.out]) | (go_at_call 43;refine (specKind_any _ _).mono ?_;rintro e w2 ⟨rfl,rfl⟩;rw[kindI_1])))))
  all_goals
   go_returns
   exact⟨by rw[RR.out];first | done | rfl,bl⟩):p:=h
theorem rk56 {p:Prop} (h:p:=by
  clear hw
  go_enter Tryd.func19,Tryd.ntmps19
  have mkq:=True.intro
  repeat (any_goals ((first | clear mkq | go_quiet (fail));(try go_wp2_with (first | (go_at_call 42;refine (specIsWellFormed_any _ _ hv).mono ?_;rintro e w1 ⟨rfl,hb1⟩;(have hz1:=hb1.sz;obtain⟨hk1_0,hf1_0,hl1_0,hn1_0⟩:=hb1.lay (w.heap.size);obtain⟨hk1_1,hf1_1,hl1_1,hn1_1⟩:=hb1.lay (q));rw[HW.out]) | (go_at_call 43;refine (specKind_any _ _).mono ?_;rintro e w2 ⟨rfl,rfl⟩;rw[kindI_2])))))
  all_goals
   go_returns
   exact⟨by rw[RR.out];first | done | rfl,bl⟩):p:=h
theorem rk57 {p:Prop} (h:p:=by
  clear hw
  go_enter Tryd.func19,Tryd.ntmps19
  have mkq:=True.intro
  repeat (any_goals ((first | clear mkq | go_quiet (fail));(try go_wp2_with (first | (go_at_call 42;refine (specIsWellFormed_any _ _ hv).mono ?_;rintro e w1 ⟨rfl,hb1⟩;(have hz1:=hb1.sz;obtain⟨hk1_0,hf1_0,hl1_0,hn1_0⟩:=hb1.lay (w.heap.size);obtain⟨hk1_1,hf1_1,hl1_1,hn1_1⟩:=hb1.lay (q));rw[HW.out]) | (go_at_call 43;refine (specKind_any _ _).mono ?_;rintro e w2 ⟨rfl,rfl⟩;rw[kindI_3])))))
  all_goals
   go_returns
   exact⟨by rw[RR.out];first | done | rfl,bl⟩):p:=h
theorem rk58 {p:Prop} (h:p:=by
  go_enter Tryd.func19,Tryd.ntmps19
  have mkq:=True.intro
  repeat (any_goals ((first | clear mkq | go_quiet (fail));(try go_wp2_with (first | (go_at_call 42;refine (specIsWellFormed_any _ _ hv).mono ?_;rintro e w1 ⟨rfl,hb1⟩;(have hz1:=hb1.sz;obtain⟨hk1_0,hf1_0,hl1_0,hn1_0⟩:=hb1.lay (w.heap.size);obtain⟨hk1_1,hf1_1,hl1_1,hn1_1⟩:=hb1.lay (q));rw[HW.out]) | (go_at_call 43;refine (specKind_any _ _).mono ?_;rintro e w2 ⟨rfl,rfl⟩;rw[kindI_11])))))
  all_goals
   go_returns
   exact⟨by rw[RR.out];first | done | rfl,bl⟩):p:=h
theorem rk59 {p:Prop} (h:p:=by
  go_enter Tryd.func19,Tryd.ntmps19
  have mkq:=True.intro
  repeat (any_goals ((first | clear mkq | go_quiet (fail));(try go_wp2_with (first | (go_at_call 42;refine (specIsWellFormed_any _ _ hv).mono ?_;rintro e w1 ⟨rfl,hb1⟩;(have hz1:=hb1.sz;obtain⟨hk1_0,hf1_0,hl1_0,hn1_0⟩:=hb1.lay (w.heap.size);obtain⟨hk1_1,hf1_1,hl1_1,hn1_1⟩:=hb1.lay (q));rw[HW.out]) | (go_at_call 43;refine (specKind_any _ _).mono ?_;rintro e w2 ⟨rfl,rfl⟩;rw[kindI_12])))))
  all_goals
   go_returns
   exact⟨by rw[RR.out];first | done | rfl,bl⟩):p:=h
theorem rk60 {p:Prop} (h:p:=by
  go_enter Tryd.func19,Tryd.ntmps19
  have mkq:=True.intro
  repeat (any_goals ((first | clear mkq | go_quiet (fail));(try go_wp2_with (first | (go_at_call 42;refine (specIsWellFormed_any _ _ hv).mono ?_;rintro e w1 ⟨rfl,hb1⟩;(have hz1:=hb1.sz;obtain⟨hk1_0,hf1_0,hl1_0,hn1_0⟩:=hb1.lay (w.heap.size);obtain⟨hk1_1,hf1_1,hl1_1,hn1_1⟩:=hb1.lay (q));rw[HW.out]) | (go_at_call 43;refine (specKind_any _ _).mono ?_;rintro e w2 ⟨rfl,rfl⟩;rw[kindI_13])))))
  all_goals
   go_returns
   exact⟨by rw[RR.out];first | done | rfl,bl⟩):p:=h
theorem rk61 {p:Prop} (h:p:=by
  go_enter Tryd.func19,Tryd.ntmps19
  have mkq:=True.intro
  repeat (any_goals ((first | clear mkq | go_quiet (fail));(try go_wp2_with (first | (go_at_call 42;refine (specIsWellFormed_any _ _ hv).mono ?_;rintro e w1 ⟨rfl,hb1⟩;(have hz1:=hb1.sz;obtain⟨hk1_0,hf1_0,hl1_0,hn1_0⟩:=hb1.lay (w.heap.size);obtain⟨hk1_1,hf1_1,hl1_1,hn1_1⟩:=hb1.lay (q));rw[HW.out]) | (go_at_call 43;refine (specKind_any _ _).mono ?_;rintro e w2 ⟨rfl,rfl⟩;rw[kindI_15])))))
  all_goals
   go_returns
   exact⟨by rw[RR.out];first | done | rfl,bl⟩):p:=h
theorem rk62 {p:Prop} (h:p:=by
  go_enter Tryd.func19,Tryd.ntmps19
  have mkq:=True.intro
  repeat (any_goals ((first | clear mkq | go_quiet (fail));(try go_wp2_with (first | (go_at_call 42;refine (specIsWellFormed_any _ _ hv).mono ?_;rintro e w1 ⟨rfl,hb1⟩;(have hz1:=hb1.sz;obtain⟨hk1_0,hf1_0,hl1_0,hn1_0⟩:=hb1.lay (w.heap.size);obtain⟨hk1_1,hf1_1,hl1_1,hn1_1⟩:=hb1.lay (q));rw[HW.out]) | (go_at_call 43;refine (specKind_any _ _).mono ?_;rintro e w2 ⟨rfl,rfl⟩;rw[kindI_16])))))
  all_goals
   go_returns
   exact⟨by rw[RR.out];first | done | rfl,bl⟩):p:=h
theorem rk63 {p:Prop} (h:p:=by
  go_enter Tryd.func19,Tryd.ntmps19
  have mkq:=True.intro
  repeat (any_goals ((first | clear mkq | go_quiet (fail));(try go_wp2_with (first | (go_at_call 42;refine (specIsWellFormed_any _ _ hv).mono ?_;rintro e w1 ⟨rfl,hb1⟩;(have hz1:=hb1.sz;obtain⟨hk1_0,hf1_0,hl1_0,hn1_0⟩:=hb1.lay (w.heap.size);obtain⟨hk1_1,hf1_1,hl1_1,hn1_1⟩:=hb1.lay (q));rw[HW.out]) | (go_at_call 43;refine (specKind_any _ _).mono ?_;rintro e w2 ⟨rfl,rfl⟩;rw[kindI_17])))))
  all_goals
   go_returns
   exact⟨by rw[RR.out];first | done | rfl,bl⟩):p:=h
theorem rk64 {p:Prop} (h:p:=by
  go_enter Tryd.func19,Tryd.ntmps19
  have mkq:=True.intro
  repeat (any_goals ((first | clear mkq | go_quiet (fail));(try go_wp2_with (first | (go_at_call 42;refine (specIsWellFormed_any _ _ hv).mono ?_;rintro e w1 ⟨rfl,hb1⟩;(have hz1:=hb1.sz;obtain⟨hk1_0,hf1_0,hl1_0,hn1_0⟩:=hb1.lay (w.heap.size);obtain⟨hk1_1,hf1_1,hl1_1,hn1_1⟩:=hb1.lay (q));rw[HW.out]) | (go_at_call 43;refine (specKind_any _ _).mono ?_;rintro e w2 ⟨rfl,rfl⟩;rw[kindI_19])))))
  all_goals
   go_returns
   exact⟨by rw[RR.out];first | done | rfl,bl⟩):p:=h
theorem rk65 {p:Prop} (h:p:=by
  go_enter Tryd.func19,Tryd.ntmps19
  have mkq:=True.intro
  repeat (any_goals ((first | clear mkq | go_quiet (fail));(try go_wp2_with (first | (go_at_call 42;refine (specIsWellFormed_any _ _ hv).mono ?_;rintro e w1 ⟨rfl,hb1⟩;(have hz1:=hb1.sz;obtain⟨hk1_0,hf1_0,hl1_0,hn1_0⟩:=hb1.lay (w.heap.size);obtain⟨hk1_1,hf1_1,hl1_1,hn1_1⟩:=hb1.lay (q));rw[HW.out]) | (go_at_call 43;refine (specKind_any _ _).mono ?_;rintro e w2 ⟨rfl,rfl⟩;rw[kindI_20])))))
  all_goals
   go_returns
   exact⟨by rw[RR.out];first | done | rfl,bl⟩):p:=h
theorem rk66 {p:Prop} (h:p:=by
  go_enter Tryd.func19,Tryd.ntmps19
  have mkq:=True.intro
  repeat (any_goals ((first | clear mkq | go_quiet (fail));(try go_wp2_with (first | (go_at_call 42;refine (specIsWellFormed_any _ _ hv).mono ?_;rintro e w1 ⟨rfl,hb1⟩;(have hz1:=hb1.sz;obtain⟨hk1_0,hf1_0,hl1_0,hn1_0⟩:=hb1.lay (w.heap.size);obtain⟨hk1_1,hf1_1,hl1_1,hn1_1⟩:=hb1.lay (q));rw[HW.out]) | (go_at_call 43;refine (specKind_any _ _).mono ?_;rintro e w2 ⟨rfl,rfl⟩;rw[kindI_4])))))
  all_goals
   go_returns
   exact⟨by rw[RR.out];first | done | rfl,bl⟩):p:=h
theorem rk67 {p:Prop} (h:p:=by
  go_enter Tryd.func19,Tryd.ntmps19
  have mkq:=True.intro
  repeat (any_goals ((first | clear mkq | go_quiet (fail));(try go_wp2_with (first | (go_at_call 42;refine (specIsWellFormed_any _ _ hv).mono ?_;rintro e w1 ⟨rfl,hb1⟩;(have hz1:=hb1.sz;obtain⟨hk1_0,hf1_0,hl1_0,hn1_0⟩:=hb1.lay (w.heap.size);obtain⟨hk1_1,hf1_1,hl1_1,hn1_1⟩:=hb1.lay (q));rw[HW.out]) | (go_at_call 43;refine (specKind_any _ _).mono ?_;rintro e w2 ⟨rfl,rfl⟩;rw[kindI_5])))))
  all_goals
   go_returns
   exact⟨by rw[RR.out];first | done | rfl,bl⟩):p:=h
theorem rk68 {p:Prop} (h:p:=by
  go_enter Tryd.func19,Tryd.ntmps19
  have mkq:=True.intro
  repeat (any_goals ((first | clear mkq | go_quiet (fail));(try go_wp2_with (first | (go_at_call 42;refine (specIsWellFormed_any _ _ hv).mono ?_;rintro e w1 ⟨rfl,hb1⟩;(have hz1:=hb1.sz;obtain⟨hk1_0,hf1_0,hl1_0,hn1_0⟩:=hb1.lay (w.heap.size);obtain⟨hk1_1,hf1_1,hl1_1,hn1_1⟩:=hb1.lay (q));rw[HW.out]) | (go_at_call 43;refine (specKind_any _ _).mono ?_;rintro e w2 ⟨rfl,rfl⟩;rw[kindI_6])))))
  all_goals
   go_returns
   exact⟨by rw[RR.out];first | done | rfl,bl⟩):p:=h
theorem rk69 {p:Prop} (h:p:=by
  go_enter Tryd.func19,Tryd.ntmps19
  have mkq:=True.intro
  repeat (any_goals ((first | clear mkq | go_quiet (fail));(try go_wp2_with (first | (go_at_call 42;refine (specIsWellFormed_any _ _ hv).mono ?_;rintro e w1 ⟨rfl,hb1⟩;(have hz1:=hb1.sz;obtain⟨hk1_0,hf1_0,hl1_0,hn1_0⟩:=hb1.lay (w.heap.size);obtain⟨hk1_1,hf1_1,hl1_1,hn1_1⟩:=hb1.lay (q));rw[HW.out]) | (go_at_call 43;refine (specKind_any _ _).mono ?_;rintro e w2 ⟨rfl,rfl⟩;rw[kindI_7])))))
  all_goals
   go_returns
   exact⟨by rw[RR.out];first | done | rfl,bl⟩):p:=h
theorem rk70 {p:Prop} (h:p:=by
  have HI:=hide hi
  clear hi hk
  have mkq:=True.intro
  repeat (any_goals ((first | clear mkq | go_quiet (fail));(try go_wp2_with (go_at_call 30;(with_reducible refine (implIn_any s ⟨x1_0,x1_1,x1_2,x1_3,x1_4,x1_5⟩ S q _ (StoreAt.bel bl HS.out) ⟨g1_0,g1_1,g1_2,g1_3,g1_4,g1_5⟩).mono ?_);rintro e wi1 ⟨rfl,hbi1⟩;(have hzi1:=hbi1.sz;obtain⟨hki1_0,hfi1_0,hli1_0,hni1_0⟩:=hbi1.lay (q);obtain⟨hki1_1,hfi1_1,hli1_1,hni1_1⟩:=hbi1.lay (b1));rw[HI.out]))))
  go_roundw
  case rel=>exact⟨1,rfl,by omega,fun _=>HC,bl⟩
  case measure=>simp[intOf]):p:=h
theorem rk71 {p:Prop} (h:p:=by
  have mkq:=True.intro
  repeat (any_goals ((first | clear mkq | go_quiet (fail));(try go_wp2_with (go_at_call 30;(with_reducible refine (implIn_any s ⟨x2_0,x2_1,x2_2,x2_3,x2_4,x2_5⟩ S q _ (StoreAt.bel bl HS.out) ⟨g2_0,g2_1,g2_2,g2_3,g2_4,g2_5⟩).mono ?_);rintro e wi2 ⟨rfl,hbi2⟩;(have hzi2:=hbi2.sz;obtain⟨hki2_0,hfi2_0,hli2_0,hni2_0⟩:=hbi2.lay (q);obtain⟨hki2_1,hfi2_1,hli2_1,hni2_1⟩:=hbi2.lay (b1));rw[HI.out]))))
  all_goals
   go_returns
   exact⟨ret_bl RR.out.symm,bl⟩):p:=h
theorem rk72 {p:Prop} (h:p:=by
  have mkq:=True.intro
  repeat (any_goals ((first | clear mkq | go_quiet (fail));(try go_wp2_with (go_at_call 30;(with_reducible refine (implIn_any s ⟨x1_0,x1_1,x1_2,x1_3,x1_4,x1_5⟩ S q _ (StoreAt.bel bl HS.out) ⟨g1_0,g1_1,g1_2,g1_3,g1_4,g1_5⟩).mono ?_);rintro e wi1 ⟨rfl,hbi1⟩;(have hzi1:=hbi1.sz;obtain⟨hki1_0,hfi1_0,hli1_0,hni1_0⟩:=hbi1.lay (q);obtain⟨hki1_1,hfi1_1,hli1_1,hni1_1⟩:=hbi1.lay (b1));rw[HI.out]))))
  all_goals
   go_returns
   exact⟨ret_bl RR.out.symm,bl⟩):p:=h
theorem rk73 {p:Prop} (h:p:=by
  have mkq:=True.intro
  repeat (any_goals ((first | clear mkq | go_quiet (fail));(try go_wp2_with (first | (go_at_call 38;refine (specIsName_any x1_0 _).mono ?_;rintro e wa ⟨rfl,hba⟩;(try rw[Hhn.out]);(have hza:=hba.sz;obtain⟨hka_0,hfa_0,hla_0,hna_0⟩:=hba.lay (w.heap.size);obtain⟨hka_1,hfa_1,hla_1,hna_1⟩:=hba.lay (wr.heap.size);obtain⟨hka_2,hfa_2,hla_2,hna_2⟩:=hba.lay (b1))) | (go_at_call 37;refine (namesOk_row x1_1 6 S _ _ _ (Row.bel bl GR1_1.out)).mono ?_;rintro e wb ⟨rfl,hbb⟩;(try rw[Hha.out]);(try rw[dl]);(try simp only[Bool.and_true,Bool.true_and,Bool.and_false,Bool.false_and]);(have hzb:=hbb.sz;obtain⟨hkb_0,hfb_0,hlb_0,hnb_0⟩:=hbb.lay (w.heap.size);obtain⟨hkb_1,hfb_1,hlb_1,hnb_1⟩:=hbb.lay (wr.heap.size);obtain⟨hkb_2,hfb_2,hlb_2,hnb_2⟩:=hbb.lay (b1))) | (go_at_call 39;refine (l9Twice_row x1_1 S _ _ _ (Row.bel bl GR1_1.out)).mono ?_;rintro e wc ⟨rfl,hbc⟩;(try rw[Hht.out]);(have hzc:=hbc.sz;obtain⟨hkc_0,hfc_0,hlc_0,hnc_0⟩:=hbc.lay (w.heap.size);obtain⟨hkc_1,hfc_1,hlc_1,hnc_1⟩:=hbc.lay (wr.heap.size);obtain⟨hkc_2,hfc_2,hlc_2,hnc_2⟩:=hbc.lay (b1)))))))
  all_goals
   go_returns
   exact⟨ret_bl (val_rec (s:=(TStore.mk x0 x1 x2 x3 x4 x5 x6 x7 x8 x9 x10 x11 x12)) m h1 HR0.out).symm,bl⟩):p:=h
theorem rk74 {p:Prop} (h:p:=by
  obtain⟨l,f,c0,c1,c2,c3,c4,c5,c6,c7,c8,c9,c10,c11,c12⟩:=h
  exact⟨by simpa using l,fun o=>by simp[f],by simp[c0,go_sem],by simp[c1,go_sem],by simp[c2,go_sem],by simp[c3,go_sem],by simp[c4,go_sem],by simp[c5,go_sem],by simp[c6,go_sem],by simp[c7,go_sem],by simp[c8,go_sem],by simp[c9,go_sem],by simp[c10,go_sem],by simp[c11,go_sem],by simp[c12,go_sem]⟩):p:=h
theorem rk75 {p:Prop} (h:p:=by
  have mkq:=True.intro
  repeat (any_goals ((first | clear mkq | go_quiet (fail));(try go_wp2_with (first | (go_at_call 44;refine (implIsName_any x1_0 _ (HT.out.on bl)).mono ?_;rintro e wa ⟨rfl,hba⟩;(try rw[Hhn.out]);(have hza:=hba.sz;obtain⟨hka_0,hfa_0,hla_0,hna_0⟩:=hba.lay (wr.heap.size);obtain⟨hka_1,hfa_1,hla_1,hna_1⟩:=hba.lay (b1))) | (go_at_call 20;refine (allNames_row x1_1 S _ _ _ (Row.bel bl GR1_1.out) (HT.out.on bl)).mono ?_;rintro e wb ⟨rfl,hbb⟩;(try rw[Hha.out]);(have hzb:=hbb.sz;obtain⟨hkb_0,hfb_0,hlb_0,hnb_0⟩:=hbb.lay (wr.heap.size);obtain⟨hkb_1,hfb_1,hlb_1,hnb_1⟩:=hbb.lay (b1))) | (go_at_call 45;refine (repeated_row x1_1 S _ _ _ (Row.bel bl GR1_1.out)).mono ?_;rintro e wc ⟨rfl,hbc⟩;(try rw[Hht.out]);(have hzc:=hbc.sz;obtain⟨hkc_0,hfc_0,hlc_0,hnc_0⟩:=hbc.lay (wr.heap.size);obtain⟨hkc_1,hfc_1,hlc_1,hnc_1⟩:=hbc.lay (b1)))))))
  all_goals
   go_returns
   exact⟨ret_bl (show (l.all recB&&decide (l.length≤8))=false by rw[show l.all recB=false from List.all_eq_false.2 ⟨_,List.getElem_mem h1,by rw[HR0.out];simp⟩];rfl).symm,bl⟩):p:=h
theorem rk76 {p:Prop} (h:p:=by
  intro u wa hG hf K hK
  clear hf
  clear hG
  simp only[Act.put,List.setIfInBounds_toArray,List.set_cons_zero,List.set_cons_succ,List.getElem_toArray,List.getElem_cons_zero,List.getElem_cons_succ]at hK ⊢
  go_simp
  exact hK.out _ _ (Bel.refl _) rfl):p:=h
theorem rk77 {p:Prop} (h:p:=by
  go_wp2_with (fail)
  repeat (any_goals (go_quiet (fail);(try go_wp2_with (fail))))
  all_goals
   go_returns
   exact⟨ret_bl RR.out.symm,bl⟩):p:=h
theorem rk78 {p:Prop} (h:p:=by
  refine hK.out undef _ ?_
  have hB:=setCells_but r3 [.int .i64 k5,.int .i64 n5,.int .i64 i5,.string t5,.int .i64 l5,.int .i64 h5] 0 wa
  have hF:=z6_fill j_D.z3 (.int .i64 k5) (.int .i64 n5) (.int .i64 i5) (.string t5) (.int .i64 l5) (.int .i64 h5)
  have hX2:=hX.block (Nat.le_of_eq hB.size.symm) (hB.block r2 hr23)
  have hv2:Dat.HoldVals (wa.setCells r3 0 [.int .i64 k5,.int .i64 n5,.int .i64 i5,.string t5,.int .i64 l5,.int .i64 h5]) (fun b=>w.heap.size≤b) t.D [.slice A0 n0 c0,.slice A1 n1 c1,.slice A2 n2 c2,.slice A3 n3 c3,.string x4,.int .i64 x5,.slice A6 n6 c6,.slice A7 n7 c7,.slice A8 n8 c8,.bool x9,.int .i64 x10,.int .i64 x11,.int .i64 x12]:=(Dat.HoldVals.offS (S0:=fun b=>lw≤b) ⟨hB.os,hB.tape,hB.output,by have:=hB.size;omega,fun d hd _=>hB.block d (by omega)⟩ (fun _ hx=>hx) j_D.val).wide (fun b hb=>by omega)
  have hb2:Bel w (wa.setCells r3 0 [.int .i64 k5,.int .i64 n5,.int .i64 i5,.string t5,.int .i64 l5,.int .i64 h5]):=⟨hB.os.trans j_D.bel.os,hB.tape.trans j_D.bel.tape,hB.output.trans j_D.bel.output,by have h1:=j_D.bel.size;have h2:=hB.size;omega,fun d hd=>(hB.block d (by omega)).trans (Below.block j_D.bel d hd)⟩
  obtain⟨wz,hwz⟩:∃x,wa.setCells r3 0 [.int .i64 k5,.int .i64 n5,.int .i64 i5,.string t5,.int .i64 l5,.int .i64 h5]=x:=⟨_,rfl⟩
  rw[hwz]at hF hX2 hv2 hb2
  rw[show wa.setCells r3 0 (#[Value.int .i64 k5,.int .i64 n5,.int .i64 i5,.string t5,.int .i64 l5,.int .i64 h5]:Array Value).toList=wz from hwz]
  clear hwz hB hX hK e_call j_D
  obtain⟨e0,e1,e2,e3,e4,e5⟩:=hF
  obtain⟨-,-,d0,d1,d2,d3,d4,d5,d6,d7,d8,d9,d10,d11,d12⟩:=hX2
  have HV2:=hide hv2
  have HB2:=hide hb2
  have HVO:=hide hv
  clear hv2 hb2 hv
  go_wp2_with (fail)
  exact bodyPost_ret (v:=.tuple #[.agg #[.slice A0 n0 c0,.slice A1 n1 c1,.slice A2 n2 c2,.slice A3 n3 c3,.string x4,.int .i64 x5,.slice A6 n6 c6,.slice A7 n7 c7,.slice A8 n8 c8,.bool x9,.int .i64 x10,.int .i64 x11,.int .i64 x12],.agg #[.int .i64 k5,.int .i64 n5,.int .i64 i5,.string t5,.int .i64 l5,.int .i64 h5]]) (by simp[results,Tryd.results11,d0,d1,d2,d3,d4,d5,d6,d7,d8,d9,d10,d11,d12,e0,e1,e2,e3,e4,e5,go_sem];try rfl) rfl ⟨t,[.slice A0 n0 c0,.slice A1 n1 c1,.slice A2 n2 c2,.slice A3 n3 c3,.string x4,.int .i64 x5,.slice A6 n6 c6,.slice A7 n7 c7,.slice A8 n8 c8,.bool x9,.int .i64 x10,.int .i64 x11,.int .i64 x12],⟨k5,n5,i5,t5,l5,h5⟩,rfl,HV2.out,ht25,HSM.out,HMD.out,HVO.out,HB2.out⟩):p:=h
theorem rk79 {p:Prop} (h:p:=by
  have RR:=hide (inB_bad (s:=(TStore.mk x0 x1 x2 x3 x4 x5 x6 x7 x8 x9 x10 x11 x12)) hw)
  have HW:=hide hw
  exact rk1):p:=h
theorem rk80 {p:Prop} (h:p:=by
  go_wp2_with (fail)
  repeat (any_goals (go_quiet (fail);(try go_wp2_with (fail))))
  all_goals
   go_returns
   rw[HK.out]
   exact⟨some ⟨w.heap.size,0,none⟩,1,rfl,HR.out,bl⟩):p:=h
theorem rk81 {p:Prop} (h:p:=by
  have SM:=hide (show ∀k,k<w1.heap.size→k≠q→v2.ownBlock≠some k→(wa.setCell ⟨q,2,none⟩ (.slice A9 (ds.length+1) c9)).heap[k]?=w1.heap[k]? from fun k hk hkq hne=>(set_block 2 _ (fun e=>hkq e.symm)).trans (same k hk hne))
  have hos:wa.os=w1.os∧wa.tape=w1.tape∧wa.output=w1.output:=⟨h3.os.trans (h2.os.trans hbr.os),h3.tape.trans (h2.tape.trans hbr.tape),h3.output.trans (h2.output.trans hbr.output)⟩
  have hB:Below q wa (wa.setCell ⟨q,2,none⟩ (.slice A9 (ds.length+1) c9)):=Below.setCell (Below.refl q wa) (show q≤(⟨q,2,none⟩:Addr).block from Nat.le_refl q) _
  have HW:=hide (show (wa.setCell ⟨q,2,none⟩ (.slice A9 (ds.length+1) c9)).os=w1.os∧(wa.setCell ⟨q,2,none⟩ (.slice A9 (ds.length+1) c9)).tape=w1.tape∧(wa.setCell ⟨q,2,none⟩ (.slice A9 (ds.length+1) c9)).output=w1.output∧w1.heap.size≤(wa.setCell ⟨q,2,none⟩ (.slice A9 (ds.length+1) c9)).heap.size from⟨hB.os.trans hos.1,hB.tape.trans hos.2.1,hB.output.trans hos.2.2,by have:=hB.size;omega⟩)
  obtain⟨hlb,hfb,kb_0,kb_1,kb_2,kb_3,kb_4,kb_5,kb_6,kb_7,kb_8,kb_9,kb_10,kb_11,kb_12⟩:=BX
  go_simp
  refine hK.out undef _ ?_
  have BL:=hide (show ∀b,(Value.slice A9 (ds.length+1) c9).ownBlock=some b→v2.ownBlock=some b∨w.heap.size≤b from fun b hb=>(hbl b hb).imp id (fun h=>by have h2:=HS.out.1;omega))
  clear hK h2 h3 hO hbl hent hB hos same
  have hw1:IntKind.i64.wrap ((ds.length:Int)+1 - 1)=(ds.length:Int):=by rw[IntKind.wrap_i64];omega
  go_wp2_with (fail)
  all_goals
   go_returns
   exact⟨_,by first | rfl | (congr 2;omega),MK.out,⟨HW.out.1.trans HS.out.2.1,HW.out.2.1.trans HS.out.2.2.1,HW.out.2.2.1.trans HS.out.2.2.2.1,by have h1:=HW.out.2.2.2;have h2:=HS.out.1;omega⟩,BL.out,fun k hk hkq hne=>(SM.out k (by have h2:=HS.out.1;omega) hkq hne).trans (HS.out.2.2.2.2 k hkq)⟩):p:=h
theorem rk82 {p:Prop} (h:p:=by
  have l_key40:decide ((keys.length:Int)≤40)=true:=decide_eq_true (by omega)
  have g_key40:decide (40<(keys.length:Int))=false:=decide_eq_false (by omega)
  have e_itk:((its.length:Int)==(keys.length:Int)+1)=false:=by rw[beq_eq_false_iff_ne];omega
  have e_itk2:((its.length:Int)==1+(keys.length:Int))=false:=by rw[beq_eq_false_iff_ne];omega
  have e_itk3:((its.length:Int)==wrap64 (1+(keys.length:Int)))=false:=by rw[itk_eq (by omega) (by omega)];exact decide_eq_false h_itk
  have H_dis:=hide h_dis
  have H_allk:=hide h_allk
  clear h_tag h_key40 h_dis h_allk h_itk
  exact rk7):p:=h
theorem rk83 {p:Prop} (h:p:=by
  have l_key40:decide ((keys.length:Int)≤40)=false:=decide_eq_false (by omega)
  have g_key40:decide (40<(keys.length:Int))=true:=decide_eq_true (by omega)
  have e_itk:((its.length:Int)==(keys.length:Int)+1)=true:=by rw[beq_iff_eq];omega
  have e_itk2:((its.length:Int)==1+(keys.length:Int))=true:=by rw[beq_iff_eq];omega
  have e_itk3:((its.length:Int)==wrap64 (1+(keys.length:Int)))=true:=by rw[itk_eq (by omega) (by omega)];exact decide_eq_true h_itk
  have H_alli:=hide h_alli
  clear h_tag h_key40 h_itk h_alli
  exact rk5):p:=h
theorem rk84 {p:Prop} (h:p:=by
  have l_itl:decide ((its.length:Int)≤24)=true:=decide_eq_true (by omega)
  have g_itl:decide (24<(its.length:Int))=false:=decide_eq_false (by omega)
  have H_alli:=hide h_alli
  clear h_tag h_key0 h_itl h_alli
  exact rk5):p:=h
theorem rk85 {p:Prop} (h:p:=by
  have l_itl:decide ((its.length:Int)≤40)=true:=decide_eq_true (by omega)
  have g_itl:decide (40<(its.length:Int))=false:=decide_eq_false (by omega)
  have H_alli:=hide h_alli
  clear h_tag h_key0 h_itl h_alli
  exact rk5):p:=h
theorem rk86 {p:Prop} (h:p:=by
  by_cases h_it0:its.length=0
  case neg =>
   have RR:=hide (show objB (TStore.mk x0 x1 x2 x3 x4 x5 x6 x7 x8 x9 x10 x11 x12) (.mk 4 tag ser its keys)=false by rw[objB_4];(try simp only[TStore.made_mk,TStore.records_mk,vAt_0,vAt_1,vAt_2]);simp[h_tag])
   have e_tag:(tag==0)=false:=by rw[beq_eq_false_iff_ne];omega
   have n_tag:(tag != 0)=true:=by rw[bne_iff_ne];omega
   have l_key40:decide ((keys.length:Int)≤40)=true:=decide_eq_true (by omega)
   have g_key40:decide (40<(keys.length:Int))=false:=decide_eq_false (by omega)
   have e_it0:((its.length:Int)==0)=false:=by rw[beq_eq_false_iff_ne];omega
   have n_it0:((its.length:Int) != 0)=true:=by rw[bne_iff_ne];omega
   have H_dis:=hide h_dis
   have H_allk:=hide h_allk
   clear h_tag h_key40 h_dis h_allk h_it0
   exact rk7
  case pos =>
  have RR:=hide (show objB (TStore.mk x0 x1 x2 x3 x4 x5 x6 x7 x8 x9 x10 x11 x12) (.mk 4 tag ser its keys)=false by rw[objB_4];(try simp only[TStore.made_mk,TStore.records_mk,vAt_0,vAt_1,vAt_2]);simp[h_tag])
  have e_tag:(tag==0)=false:=by rw[beq_eq_false_iff_ne];omega
  have n_tag:(tag != 0)=true:=by rw[bne_iff_ne];omega
  have l_key40:decide ((keys.length:Int)≤40)=true:=decide_eq_true (by omega)
  have g_key40:decide (40<(keys.length:Int))=false:=decide_eq_false (by omega)
  have e_it0:((its.length:Int)==0)=true:=by rw[beq_iff_eq];omega
  have n_it0:((its.length:Int) != 0)=false:=by rw[bne_eq_false_iff_eq];omega
  have H_dis:=hide h_dis
  have H_allk:=hide h_allk
  clear h_tag h_key40 h_dis h_allk h_it0
  exact rk7):p:=h
theorem rk87 {p:Prop} (h:p:=by
  have e_tag:(tag==0)=true:=by rw[beq_iff_eq];omega
  have n_tag:(tag != 0)=false:=by rw[bne_eq_false_iff_eq];omega
  have e_key0:((keys.length:Int)==0)=false:=by rw[beq_eq_false_iff_ne];omega
  have n_key0:((keys.length:Int) != 0)=true:=by rw[bne_iff_ne];omega
  clear h_tag h_key0
  exact rk6):p:=h
theorem rk88 {p:Prop} (h:p:=by
  have HC:=hide (show chkP s 12 ⟨x1_0,x1_1,x1_2,x1_3,x1_4,x1_5⟩=false by unfold chkP;rw[hi];simp[hk])
  have HI:=hide hi
  clear hi hk
  have mkq:=True.intro
  repeat (any_goals ((first | clear mkq | go_quiet (fail));(try go_wp2_with (go_at_call 30;(with_reducible refine (implIn_any s ⟨x1_0,x1_1,x1_2,x1_3,x1_4,x1_5⟩ S q _ (StoreAt.bel bl HS.out) ⟨g1_0,g1_1,g1_2,g1_3,g1_4,g1_5⟩).mono ?_);rintro e wi1 ⟨rfl,hbi1⟩;(have hzi1:=hbi1.sz;obtain⟨hki1_0,hfi1_0,hli1_0,hni1_0⟩:=hbi1.lay (q);obtain⟨hki1_1,hfi1_1,hli1_1,hni1_1⟩:=hbi1.lay (b1));rw[HI.out]))))
  have RR:=hide (show patB s 14 [a,b]=false by rw[HP.out,HC.out];first | done | simp)
  all_goals
   go_returns
   exact⟨ret_bl RR.out.symm,bl⟩):p:=h
theorem rk89 {p:Prop} (h:p:=by
  have HC:=hide (show chkP s 12 ⟨x2_0,x2_1,x2_2,x2_3,x2_4,x2_5⟩=false by unfold chkP;rw[hi];simp[hk])
  have HI:=hide hi
  clear hi hk
  have mkq:=True.intro
  repeat (any_goals ((first | clear mkq | go_quiet (fail));(try go_wp2_with (go_at_call 30;(with_reducible refine (implIn_any s ⟨x2_0,x2_1,x2_2,x2_3,x2_4,x2_5⟩ S q _ (StoreAt.bel bl HS.out) ⟨g2_0,g2_1,g2_2,g2_3,g2_4,g2_5⟩).mono ?_);rintro e wi2 ⟨rfl,hbi2⟩;(have hzi2:=hbi2.sz;obtain⟨hki2_0,hfi2_0,hli2_0,hni2_0⟩:=hbi2.lay (q);obtain⟨hki2_1,hfi2_1,hli2_1,hni2_1⟩:=hbi2.lay (b1));rw[HI.out]))))
  have RR:=hide (show patB s 14 [a,b]=false by rw[HP.out,HC.out];first | done | simp)
  all_goals
   go_returns
   exact⟨ret_bl RR.out.symm,bl⟩):p:=h
theorem rk90 {p:Prop} (h:p:=by
  have HC:=hide (show chkP s 12 ⟨x1_0,x1_1,x1_2,x1_3,x1_4,x1_5⟩=false by unfold chkP;rw[hi];simp[hk])
  have HI:=hide hi
  clear hi hk
  have mkq:=True.intro
  repeat (any_goals ((first | clear mkq | go_quiet (fail));(try go_wp2_with (go_at_call 30;(with_reducible refine (implIn_any s ⟨x1_0,x1_1,x1_2,x1_3,x1_4,x1_5⟩ S q _ (StoreAt.bel bl HS.out) ⟨g1_0,g1_1,g1_2,g1_3,g1_4,g1_5⟩).mono ?_);rintro e wi1 ⟨rfl,hbi1⟩;(have hzi1:=hbi1.sz;obtain⟨hki1_0,hfi1_0,hli1_0,hni1_0⟩:=hbi1.lay (q);obtain⟨hki1_1,hfi1_1,hli1_1,hni1_1⟩:=hbi1.lay (b1));rw[HI.out]))))
  have RR:=hide (show patB s 15 [a,b]=false by rw[HP.out,HC.out];first | done | simp)
  all_goals
   go_returns
   exact⟨ret_bl RR.out.symm,bl⟩):p:=h
theorem rk91 {p:Prop} (h:p:=by
  have HC:=hide (show chkP s 12 ⟨x2_0,x2_1,x2_2,x2_3,x2_4,x2_5⟩=false by unfold chkP;rw[hi];simp[hk])
  have HI:=hide hi
  clear hi hk
  have mkq:=True.intro
  repeat (any_goals ((first | clear mkq | go_quiet (fail));(try go_wp2_with (go_at_call 30;(with_reducible refine (implIn_any s ⟨x2_0,x2_1,x2_2,x2_3,x2_4,x2_5⟩ S q _ (StoreAt.bel bl HS.out) ⟨g2_0,g2_1,g2_2,g2_3,g2_4,g2_5⟩).mono ?_);rintro e wi2 ⟨rfl,hbi2⟩;(have hzi2:=hbi2.sz;obtain⟨hki2_0,hfi2_0,hli2_0,hni2_0⟩:=hbi2.lay (q);obtain⟨hki2_1,hfi2_1,hli2_1,hni2_1⟩:=hbi2.lay (b1));rw[HI.out]))))
  have RR:=hide (show patB s 15 [a,b]=false by rw[HP.out,HC.out];first | done | simp)
  all_goals
   go_returns
   exact⟨ret_bl RR.out.symm,bl⟩):p:=h
theorem rk92 {p:Prop} (h:p:=by
  have HC:=hide (show chkP s 12 ⟨x1_0,x1_1,x1_2,x1_3,x1_4,x1_5⟩=false by unfold chkP;rw[hi];simp[hk])
  have HI:=hide hi
  clear hi hk
  have mkq:=True.intro
  repeat (any_goals ((first | clear mkq | go_quiet (fail));(try go_wp2_with (go_at_call 30;(with_reducible refine (implIn_any s ⟨x1_0,x1_1,x1_2,x1_3,x1_4,x1_5⟩ S q _ (StoreAt.bel bl HS.out) ⟨g1_0,g1_1,g1_2,g1_3,g1_4,g1_5⟩).mono ?_);rintro e wi1 ⟨rfl,hbi1⟩;(have hzi1:=hbi1.sz;obtain⟨hki1_0,hfi1_0,hli1_0,hni1_0⟩:=hbi1.lay (q);obtain⟨hki1_1,hfi1_1,hli1_1,hni1_1⟩:=hbi1.lay (b1));rw[HI.out]))))
  have RR:=hide (show patB s 16 [a,b]=false by rw[HP.out,HC.out];first | done | simp)
  all_goals
   go_returns
   exact⟨ret_bl RR.out.symm,bl⟩):p:=h
theorem rk93 {p:Prop} (h:p:=by
  have HC:=hide (show chkP s 12 ⟨x1_0,x1_1,x1_2,x1_3,x1_4,x1_5⟩=false by unfold chkP;rw[hi];simp[hk])
  have HI:=hide hi
  clear hi hk
  have mkq:=True.intro
  repeat (any_goals ((first | clear mkq | go_quiet (fail));(try go_wp2_with (go_at_call 30;(with_reducible refine (implIn_any s ⟨x1_0,x1_1,x1_2,x1_3,x1_4,x1_5⟩ S q _ (StoreAt.bel bl HS.out) ⟨g1_0,g1_1,g1_2,g1_3,g1_4,g1_5⟩).mono ?_);rintro e wi1 ⟨rfl,hbi1⟩;(have hzi1:=hbi1.sz;obtain⟨hki1_0,hfi1_0,hli1_0,hni1_0⟩:=hbi1.lay (q);obtain⟨hki1_1,hfi1_1,hli1_1,hni1_1⟩:=hbi1.lay (b1));rw[HI.out]))))
  have RR:=hide (show patB s 17 [a,b]=false by rw[HP.out,HC.out];first | done | simp)
  all_goals
   go_returns
   exact⟨ret_bl RR.out.symm,bl⟩):p:=h
theorem rk94 {p:Prop} (h:p:=by
  by_cases hs:ser=0
  case neg =>
   have e_s:(ser==0)=false:=by simp;omega
   have n_s:(ser != 0)=true:=by simp;omega
   exact rk3
  case pos =>
   have e_s:(ser==0)=true:=by simp;omega
   have n_s:(ser != 0)=false:=by simp;omega
   by_cases h_tag:tag=0
   case neg =>
    have e_tag:(tag==0)=false:=by rw[beq_eq_false_iff_ne];omega
    have n_tag:(tag != 0)=true:=by rw[bne_iff_ne];omega
    by_cases h_key:keys.length=0
    case neg =>
     have e_key0:((keys.length:Int)==0)=false:=by rw[beq_eq_false_iff_ne];omega
     have n_key0:((keys.length:Int) != 0)=true:=by rw[bne_iff_ne];omega
     clear h_tag h_key hs
     exact rk3
    case pos =>
     have e_key0:((keys.length:Int)==0)=true:=by rw[beq_iff_eq];omega
     have n_key0:((keys.length:Int) != 0)=false:=by rw[bne_eq_false_iff_eq];omega
     clear h_tag h_key hs
     exact rk3
   case pos =>
    have e_tag:(tag==0)=true:=by rw[beq_iff_eq];omega
    have n_tag:(tag != 0)=false:=by rw[bne_eq_false_iff_eq];omega
    by_cases h_key:keys.length=0
    case neg =>
     have e_key0:((keys.length:Int)==0)=false:=by rw[beq_eq_false_iff_ne];omega
     have n_key0:((keys.length:Int) != 0)=true:=by rw[bne_iff_ne];omega
     clear h_tag h_key hs
     exact rk3
    case pos =>
     have e_key0:((keys.length:Int)==0)=true:=by rw[beq_iff_eq];omega
     have n_key0:((keys.length:Int) != 0)=false:=by rw[bne_eq_false_iff_eq];omega
     clear h_tag h_key hs
     exact rk3):p:=h
theorem rk95 {p:Prop} (h:p:=by
  by_cases hs:ser=0
  case neg =>
   have e_s:(ser==0)=false:=by simp;omega
   have n_s:(ser != 0)=true:=by simp;omega
   exact rk6
  case pos =>
   have e_s:(ser==0)=true:=by simp;omega
   have n_s:(ser != 0)=false:=by simp;omega
   by_cases h_tag:tag=0
   case neg =>
    have e_tag:(tag==0)=false:=by rw[beq_eq_false_iff_ne];omega
    have n_tag:(tag != 0)=true:=by rw[bne_iff_ne];omega
    by_cases h_key:keys.length=0
    case neg =>
     have e_key0:((keys.length:Int)==0)=false:=by rw[beq_eq_false_iff_ne];omega
     have n_key0:((keys.length:Int) != 0)=true:=by rw[bne_iff_ne];omega
     clear h_tag h_key hs
     exact rk6
    case pos =>
     have e_key0:((keys.length:Int)==0)=true:=by rw[beq_iff_eq];omega
     have n_key0:((keys.length:Int) != 0)=false:=by rw[bne_eq_false_iff_eq];omega
     clear h_tag h_key hs
     exact rk6
   case pos =>
    have e_tag:(tag==0)=true:=by rw[beq_iff_eq];omega
    have n_tag:(tag != 0)=false:=by rw[bne_eq_false_iff_eq];omega
    by_cases h_key:keys.length=0
    case neg =>
     have e_key0:((keys.length:Int)==0)=false:=by rw[beq_eq_false_iff_ne];omega
     have n_key0:((keys.length:Int) != 0)=true:=by rw[bne_iff_ne];omega
     clear h_tag h_key hs
     exact rk6
    case pos =>
     have e_key0:((keys.length:Int)==0)=true:=by rw[beq_iff_eq];omega
     have n_key0:((keys.length:Int) != 0)=false:=by rw[bne_eq_false_iff_eq];omega
     clear h_tag h_key hs
     exact rk6):p:=h
theorem rk96 {p:Prop} (h:p:=by
  have HC:=hide (show chkP s 12 ⟨x1_0,x1_1,x1_2,x1_3,x1_4,x1_5⟩=false by unfold chkP;rw[hi];simp[hk])
  have HI:=hide hi
  clear hi hk
  have mkq:=True.intro
  repeat (any_goals ((first | clear mkq | go_quiet (fail));(try go_wp2_with (go_at_call 30;(with_reducible refine (implIn_any s ⟨x1_0,x1_1,x1_2,x1_3,x1_4,x1_5⟩ S q _ (StoreAt.bel bl HS.out) ⟨g1_0,g1_1,g1_2,g1_3,g1_4,g1_5⟩).mono ?_);rintro e wi1 ⟨rfl,hbi1⟩;(have hzi1:=hbi1.sz;obtain⟨hki1_0,hfi1_0,hli1_0,hni1_0⟩:=hbi1.lay (q);obtain⟨hki1_1,hfi1_1,hli1_1,hni1_1⟩:=hbi1.lay (b1));rw[HI.out]))))
  have RR:=hide (show patB s 13 [a]=false by rw[HP.out,HC.out];first | done | simp)
  all_goals
   go_returns
   exact⟨ret_bl RR.out.symm,bl⟩):p:=h
theorem rk97 {p:Prop} (h:p:=by
  have HC:=hide (show chkP s 3 ⟨x1_0,x1_1,x1_2,x1_3,x1_4,x1_5⟩=false by unfold chkP;rw[hi];simp[hk])
  have HI:=hide hi
  clear hi hk
  have mkq:=True.intro
  repeat (any_goals ((first | clear mkq | go_quiet (fail));(try go_wp2_with (go_at_call 30;(with_reducible refine (implIn_any s ⟨x1_0,x1_1,x1_2,x1_3,x1_4,x1_5⟩ S q _ (StoreAt.bel bl HS.out) ⟨g1_0,g1_1,g1_2,g1_3,g1_4,g1_5⟩).mono ?_);rintro e wi1 ⟨rfl,hbi1⟩;(have hzi1:=hbi1.sz;obtain⟨hki1_0,hfi1_0,hli1_0,hni1_0⟩:=hbi1.lay (q);obtain⟨hki1_1,hfi1_1,hli1_1,hni1_1⟩:=hbi1.lay (b1));rw[HI.out]))))
  have RR:=hide (show patB s 10 [a]=false by rw[HP.out,HC.out];first | done | simp)
  all_goals
   go_returns
   exact⟨ret_bl RR.out.symm,bl⟩):p:=h
theorem rk98 {p:Prop} (h:p:=by
  have HC:=hide (show chkP s 2 ⟨x1_0,x1_1,x1_2,x1_3,x1_4,x1_5⟩=false by unfold chkP;rw[hi];simp[hk])
  have HI:=hide hi
  clear hi hk
  have mkq:=True.intro
  repeat (any_goals ((first | clear mkq | go_quiet (fail));(try go_wp2_with (go_at_call 30;(with_reducible refine (implIn_any s ⟨x1_0,x1_1,x1_2,x1_3,x1_4,x1_5⟩ S q _ (StoreAt.bel bl HS.out) ⟨g1_0,g1_1,g1_2,g1_3,g1_4,g1_5⟩).mono ?_);rintro e wi1 ⟨rfl,hbi1⟩;(have hzi1:=hbi1.sz;obtain⟨hki1_0,hfi1_0,hli1_0,hni1_0⟩:=hbi1.lay (q);obtain⟨hki1_1,hfi1_1,hli1_1,hni1_1⟩:=hbi1.lay (b1));rw[HI.out]))))
  have RR:=hide (show patB s 1 [a]=false by rw[HP.out,HC.out];first | done | simp)
  all_goals
   go_returns
   exact⟨ret_bl RR.out.symm,bl⟩):p:=h
theorem rk99 {p:Prop} (h:p:=by
  have HC:=hide (show chkP s 1 ⟨x1_0,x1_1,x1_2,x1_3,x1_4,x1_5⟩=false by unfold chkP;rw[hi];simp[hk])
  have HI:=hide hi
  clear hi hk
  have mkq:=True.intro
  repeat (any_goals ((first | clear mkq | go_quiet (fail));(try go_wp2_with (go_at_call 30;(with_reducible refine (implIn_any s ⟨x1_0,x1_1,x1_2,x1_3,x1_4,x1_5⟩ S q _ (StoreAt.bel bl HS.out) ⟨g1_0,g1_1,g1_2,g1_3,g1_4,g1_5⟩).mono ?_);rintro e wi1 ⟨rfl,hbi1⟩;(have hzi1:=hbi1.sz;obtain⟨hki1_0,hfi1_0,hli1_0,hni1_0⟩:=hbi1.lay (q);obtain⟨hki1_1,hfi1_1,hli1_1,hni1_1⟩:=hbi1.lay (b1));rw[HI.out]))))
  have RR:=hide (show patB s 2 [a]=false by rw[HP.out,HC.out];first | done | simp)
  all_goals
   go_returns
   exact⟨ret_bl RR.out.symm,bl⟩):p:=h
theorem rk100 {p:Prop} (h:p:=by
  have HC:=hide (show chkP s 1 ⟨x1_0,x1_1,x1_2,x1_3,x1_4,x1_5⟩=false by unfold chkP;rw[hi];simp[hk])
  have HI:=hide hi
  clear hi hk
  have mkq:=True.intro
  repeat (any_goals ((first | clear mkq | go_quiet (fail));(try go_wp2_with (go_at_call 30;(with_reducible refine (implIn_any s ⟨x1_0,x1_1,x1_2,x1_3,x1_4,x1_5⟩ S q _ (StoreAt.bel bl HS.out) ⟨g1_0,g1_1,g1_2,g1_3,g1_4,g1_5⟩).mono ?_);rintro e wi1 ⟨rfl,hbi1⟩;(have hzi1:=hbi1.sz;obtain⟨hki1_0,hfi1_0,hli1_0,hni1_0⟩:=hbi1.lay (q);obtain⟨hki1_1,hfi1_1,hli1_1,hni1_1⟩:=hbi1.lay (b1));rw[HI.out]))))
  have RR:=hide (show patB s 3 [a]=false by rw[HP.out,HC.out];first | done | simp)
  all_goals
   go_returns
   exact⟨ret_bl RR.out.symm,bl⟩):p:=h
theorem rk101 {p:Prop} (h:p:=by
  have HC:=hide (show chkP s 1 ⟨x1_0,x1_1,x1_2,x1_3,x1_4,x1_5⟩=false by unfold chkP;rw[hi];simp[hk])
  have HI:=hide hi
  clear hi hk
  have mkq:=True.intro
  repeat (any_goals ((first | clear mkq | go_quiet (fail));(try go_wp2_with (go_at_call 30;(with_reducible refine (implIn_any s ⟨x1_0,x1_1,x1_2,x1_3,x1_4,x1_5⟩ S q _ (StoreAt.bel bl HS.out) ⟨g1_0,g1_1,g1_2,g1_3,g1_4,g1_5⟩).mono ?_);rintro e wi1 ⟨rfl,hbi1⟩;(have hzi1:=hbi1.sz;obtain⟨hki1_0,hfi1_0,hli1_0,hni1_0⟩:=hbi1.lay (q);obtain⟨hki1_1,hfi1_1,hli1_1,hni1_1⟩:=hbi1.lay (b1));rw[HI.out]))))
  have RR:=hide (show patB s 4 [a]=false by rw[HP.out,HC.out];first | done | simp)
  all_goals
   go_returns
   exact⟨ret_bl RR.out.symm,bl⟩):p:=h
theorem rk102 {p:Prop} (h:p:=by
  have HC:=hide (show chkP s 1 ⟨x1_0,x1_1,x1_2,x1_3,x1_4,x1_5⟩=false by unfold chkP;rw[hi];simp[hk])
  have HI:=hide hi
  clear hi hk
  have mkq:=True.intro
  repeat (any_goals ((first | clear mkq | go_quiet (fail));(try go_wp2_with (go_at_call 30;(with_reducible refine (implIn_any s ⟨x1_0,x1_1,x1_2,x1_3,x1_4,x1_5⟩ S q _ (StoreAt.bel bl HS.out) ⟨g1_0,g1_1,g1_2,g1_3,g1_4,g1_5⟩).mono ?_);rintro e wi1 ⟨rfl,hbi1⟩;(have hzi1:=hbi1.sz;obtain⟨hki1_0,hfi1_0,hli1_0,hni1_0⟩:=hbi1.lay (q);obtain⟨hki1_1,hfi1_1,hli1_1,hni1_1⟩:=hbi1.lay (b1));rw[HI.out]))))
  have RR:=hide (show patB s 5 [a]=false by rw[HP.out,HC.out];first | done | simp)
  all_goals
   go_returns
   exact⟨ret_bl RR.out.symm,bl⟩):p:=h
theorem rk103 {p:Prop} (h:p:=by
  have HC:=hide (show chkP s 1 ⟨x1_0,x1_1,x1_2,x1_3,x1_4,x1_5⟩=false by unfold chkP;rw[hi];simp[hk])
  have HI:=hide hi
  clear hi hk
  have mkq:=True.intro
  repeat (any_goals ((first | clear mkq | go_quiet (fail));(try go_wp2_with (go_at_call 30;(with_reducible refine (implIn_any s ⟨x1_0,x1_1,x1_2,x1_3,x1_4,x1_5⟩ S q _ (StoreAt.bel bl HS.out) ⟨g1_0,g1_1,g1_2,g1_3,g1_4,g1_5⟩).mono ?_);rintro e wi1 ⟨rfl,hbi1⟩;(have hzi1:=hbi1.sz;obtain⟨hki1_0,hfi1_0,hli1_0,hni1_0⟩:=hbi1.lay (q);obtain⟨hki1_1,hfi1_1,hli1_1,hni1_1⟩:=hbi1.lay (b1));rw[HI.out]))))
  have RR:=hide (show patB s 6 [a]=false by rw[HP.out,HC.out];first | done | simp)
  all_goals
   go_returns
   exact⟨ret_bl RR.out.symm,bl⟩):p:=h
theorem rk104 {p:Prop} (h:p:=by
  have HC:=hide (show chkP s 3 ⟨x1_0,x1_1,x1_2,x1_3,x1_4,x1_5⟩=false by unfold chkP;rw[hi];simp[hk])
  have HI:=hide hi
  clear hi hk
  have mkq:=True.intro
  repeat (any_goals ((first | clear mkq | go_quiet (fail));(try go_wp2_with (go_at_call 30;(with_reducible refine (implIn_any s ⟨x1_0,x1_1,x1_2,x1_3,x1_4,x1_5⟩ S q _ (StoreAt.bel bl HS.out) ⟨g1_0,g1_1,g1_2,g1_3,g1_4,g1_5⟩).mono ?_);rintro e wi1 ⟨rfl,hbi1⟩;(have hzi1:=hbi1.sz;obtain⟨hki1_0,hfi1_0,hli1_0,hni1_0⟩:=hbi1.lay (q);obtain⟨hki1_1,hfi1_1,hli1_1,hni1_1⟩:=hbi1.lay (b1));rw[HI.out]))))
  have RR:=hide (show patB s 7 [a]=false by rw[HP.out,HC.out];first | done | simp)
  all_goals
   go_returns
   exact⟨ret_bl RR.out.symm,bl⟩):p:=h
theorem rk105 {p:Prop} (h:p:=by
  have HC:=hide (show chkP s 3 ⟨x1_0,x1_1,x1_2,x1_3,x1_4,x1_5⟩=false by unfold chkP;rw[hi];simp[hk])
  have HI:=hide hi
  clear hi hk
  have mkq:=True.intro
  repeat (any_goals ((first | clear mkq | go_quiet (fail));(try go_wp2_with (go_at_call 30;(with_reducible refine (implIn_any s ⟨x1_0,x1_1,x1_2,x1_3,x1_4,x1_5⟩ S q _ (StoreAt.bel bl HS.out) ⟨g1_0,g1_1,g1_2,g1_3,g1_4,g1_5⟩).mono ?_);rintro e wi1 ⟨rfl,hbi1⟩;(have hzi1:=hbi1.sz;obtain⟨hki1_0,hfi1_0,hli1_0,hni1_0⟩:=hbi1.lay (q);obtain⟨hki1_1,hfi1_1,hli1_1,hni1_1⟩:=hbi1.lay (b1));rw[HI.out]))))
  have RR:=hide (show patB s 8 [a]=false by rw[HP.out,HC.out];first | done | simp)
  all_goals
   go_returns
   exact⟨ret_bl RR.out.symm,bl⟩):p:=h
theorem rk106 {p:Prop} (h:p:=by
  have HC:=hide (show chkP s 3 ⟨x1_0,x1_1,x1_2,x1_3,x1_4,x1_5⟩=false by unfold chkP;rw[hi];simp[hk])
  have HI:=hide hi
  clear hi hk
  have mkq:=True.intro
  repeat (any_goals ((first | clear mkq | go_quiet (fail));(try go_wp2_with (go_at_call 30;(with_reducible refine (implIn_any s ⟨x1_0,x1_1,x1_2,x1_3,x1_4,x1_5⟩ S q _ (StoreAt.bel bl HS.out) ⟨g1_0,g1_1,g1_2,g1_3,g1_4,g1_5⟩).mono ?_);rintro e wi1 ⟨rfl,hbi1⟩;(have hzi1:=hbi1.sz;obtain⟨hki1_0,hfi1_0,hli1_0,hni1_0⟩:=hbi1.lay (q);obtain⟨hki1_1,hfi1_1,hli1_1,hni1_1⟩:=hbi1.lay (b1));rw[HI.out]))))
  have RR:=hide (show patB s 9 [a]=false by rw[HP.out,HC.out];first | done | simp)
  all_goals
   go_returns
   exact⟨ret_bl RR.out.symm,bl⟩):p:=h
theorem rk107 {p:Prop} (h:p:=by
  have hv1:(a:TValue).v=⟨x1_0,x1_1,x1_2,x1_3,x1_4,x1_5⟩:=by rw[show a=_ from HX1.out];rfl
  simp[all2,hv1]):p:=h
theorem rk108 {p:Prop} (h:p:=by
  have l_key40:decide ((keys.length:Int)≤40)=true:=decide_eq_true (by omega)
  have g_key40:decide (40<(keys.length:Int))=false:=decide_eq_false (by omega)
  have e_it0:((its.length:Int)==0)=false:=by rw[beq_eq_false_iff_ne];omega
  have n_it0:((its.length:Int) != 0)=true:=by rw[bne_iff_ne];omega
  have H_dis:=hide h_dis
  have H_allk:=hide h_allk
  clear h_tag h_key40 h_dis h_allk h_it0
  exact rk7):p:=h
theorem rk109 {p:Prop} (h:p:=by
  have l_key40:decide ((keys.length:Int)≤40)=true:=decide_eq_true (by omega)
  have g_key40:decide (40<(keys.length:Int))=false:=decide_eq_false (by omega)
  have e_it0:((its.length:Int)==0)=true:=by rw[beq_iff_eq];omega
  have n_it0:((its.length:Int) != 0)=false:=by rw[bne_eq_false_iff_eq];omega
  have H_dis:=hide h_dis
  have H_allk:=hide h_allk
  clear h_tag h_key40 h_dis h_allk h_it0
  exact rk7):p:=h
theorem rk110 {p:Prop} (h:p:=by
  intro u wa hG hf K hK
  clear hf
  clear hG
  simp only[Act.put,List.setIfInBounds_toArray,List.set_cons_zero,List.set_cons_succ,List.getElem_toArray,List.getElem_cons_zero,List.getElem_cons_succ]at hK ⊢
  go_simp
  exact hK.out _ _ (Bel.refl _) rfl (fun h=>absurd h (by decide))):p:=h
theorem rk111 {p:Prop} (h:p:=by
  have RR:=hide (show objB (TStore.mk x0 x1 x2 x3 x4 x5 x6 x7 x8 x9 x10 x11 x12) (.mk 3 tag ser its keys)=false by rw[objB_3];(try simp only[TStore.made_mk,TStore.records_mk,vAt_0,vAt_1,vAt_2]);simp[h_tag])
  have e_tag:(tag==0)=false:=by rw[beq_eq_false_iff_ne];omega
  have n_tag:(tag != 0)=true:=by rw[bne_iff_ne];omega
  exact rk4):p:=h
theorem rk112 {p:Prop} (h:p:=by
  subst him
  have hol':o=ol:=by rw[ho]at hol;exact Option.some.inj hol
  subst hol'
  have hall4:∀j,j<i→listed.getD j false=true:=fun j hj=>by
   have h3:=hmem _ (closed_set hc hi) hself j hj
   rwa [getD_set_ne false (by omega)]at h3
  have hall2:∀j,j<i→φ j (maskU dep j u) w:=fun j hj=>hφ j (hall4 j hj)
  have hall3:∀j,j<ops.size→(listed.setIfInBounds i true).getD j false=true:=fun j hj=>by
   rcases Nat.lt_or_ge j i with h | h
   ·
    exact hmem _ (closed_set hc hi) hself j h
   ·
    obtain rfl:j=i:=by omega
    exact hself
  have hnil:Region.ready .any ops (listed.setIfInBounds i true)=[]:=by
   refine List.eq_nil_iff_forall_not_mem.2 fun k hk=>?_
   obtain⟨h1,ok,hok,-⟩:=mem_ready.1 hk
   have hk1:k<ops.size:=(Array.getElem?_eq_some_iff.1 hok).1
   have h2:=hall3 k hk1
   rw[getD_true_of (by omega)]at h1 h2
   rw[h2]at h1
   cases h1
  exact wpOp_step ho fun K' hK=>(if_pos (plain _ _ _ ho)).mpr <| hlast u w (hg1 (hall4 p hpm)) hall2 K' (fun v w' hq=>hK _ _ (wpAny_done hnil hq _))):p:=h
theorem rk113 {p:Prop} (h:p:=by
  have e_tag:(tag==0)=false:=by rw[beq_eq_false_iff_ne];omega
  have n_tag:(tag != 0)=true:=by rw[bne_iff_ne];omega
  clear h_tag
  exact rk6):p:=h
theorem rk114 {p:Prop} (h:p:=by
  have mkq:=True.intro
  repeat (any_goals ((first | clear mkq | go_quiet (fail));(try go_wp2_with (go_at_call 19;refine (specIn_any s ⟨x2_0,x2_1,x2_2,x2_3,x2_4,x2_5⟩ S q _ (StoreAt.bel bl HS.out) ⟨g2_0,g2_1,g2_2,g2_3,g2_4,g2_5⟩).mono ?_;rintro e w4 ⟨rfl,hb4⟩;rw[HN.out];(have hz4:=hb4.sz;obtain⟨hk4_0,hf4_0,hl4_0,hn4_0⟩:=hb4.lay (wr.heap.size);obtain⟨hk4_1,hf4_1,hl4_1,hn4_1⟩:=hb4.lay (b3))))))
  all_goals
   go_returns
   exact⟨by rw[HA.out];first | done | rfl,bl⟩):p:=h
theorem rk115 {p:Prop} (h:p:=by
  intro u wa hG hf K hK
  have g0:=g0_of hG (by kernel_rfl)
  have e3:(u 3)=.pointer (some ⟨q,2,none⟩):=fact_ofU hf 3 (by kernel_rfl)
  clear hf
  clear hG
  simp only[Act.put,List.setIfInBounds_toArray,List.set_cons_zero,List.set_cons_succ,List.getElem_toArray,List.getElem_cons_zero,List.getElem_cons_succ]at hK ⊢
  rw[e3]at hK ⊢
  obtain⟨hlb,hfb,kb_0,kb_1,kb_2,kb_3,kb_4,kb_5,kb_6,kb_7,kb_8,kb_9,kb_10,kb_11,kb_12⟩:=g0.1.box
  clear g0
  go_simp
  exact hK.out _ _ (Bel.refl _) rfl):p:=h
theorem rk116 {p:Prop} (h:p:=by
  have RR:=hide (show objB (TStore.mk x0 x1 x2 x3 x4 x5 x6 x7 x8 x9 x10 x11 x12) (.mk 3 tag ser its keys)=false by rw[objB_3];show (decide (1≤ser∧ser≤x12)&&_)=false;rw[decide_eq_false (show ¬(1≤ser∧ser≤x12) by omega)];rfl)
  have ds2:decide (x12<ser)=true:=by simp;omega
  exact rk3):p:=h
theorem rk117 {p:Prop} (h:p:=by
  have RR:=hide (show objB (TStore.mk x0 x1 x2 x3 x4 x5 x6 x7 x8 x9 x10 x11 x12) (.mk 3 tag ser its keys)=false by rw[objB_3];show (decide (1≤ser∧ser≤x12)&&_)=false;rw[decide_eq_false (show ¬(1≤ser∧ser≤x12) by omega)];rfl)
  have ds1:decide (ser<1)=true:=by simp;omega
  exact rk3):p:=h
theorem rk118 {p:Prop} (h:p:=by
  have:(List.range ops.size).countP (fun j=>!(listed.setIfInBounds i true).getD j true)<(List.range ops.size).countP (fun j=>!listed.getD j true):=by
   refine countP_lt (List.mem_range.2 hi1) (by rw[hjun];rfl) ?_ (fun j hj=>?_)
   ·
    rw[getD_true_of (by omega),Array.getElem_setIfInBounds_self]
    rfl
   ·
    by_cases h:i=j
    ·
     subst h;rw[hjun];rfl
    ·
     rw[getD_set_ne true h]at hj;exact hj
  omega):p:=h
theorem rk119 {p:Prop} (h:p:=by
  have H_in1:=hide h_in1
  have H_in2:=hide h_in2
  have H_in3:=hide h_in3
  clear h_key0 h_in1 h_in2 h_in3 h_n3
  exact rk0):p:=h
theorem rk120 {p:Prop} (h:p:=by
  obtain⟨l,f,c0,c1,c2,c3,c4⟩:=h
  exact⟨by simpa using l,fun o=>by simp[f],by simp[c0,go_sem],by simp[c1,go_sem],by simp[c2,go_sem],by simp[c3,go_sem],by simp[c4,go_sem]⟩):p:=h
theorem rk121 {p:Prop} (h:p:=by
  have fk:(x2_0 != 12)=false:=by simp[hk]
  have HC:=hide (show chkP s 12 ⟨x2_0,x2_1,x2_2,x2_3,x2_4,x2_5⟩=true by unfold chkP;rw[hi];simp[hk])
  have HI:=hide hi
  clear hi hk
  have mkq:=True.intro
  repeat (any_goals ((first | clear mkq | go_quiet (fail));(try go_wp2_with (go_at_call 30;(with_reducible refine (implIn_any s ⟨x2_0,x2_1,x2_2,x2_3,x2_4,x2_5⟩ S q _ (StoreAt.bel bl HS.out) ⟨g2_0,g2_1,g2_2,g2_3,g2_4,g2_5⟩).mono ?_);rintro e wi2 ⟨rfl,hbi2⟩;(have hzi2:=hbi2.sz;obtain⟨hki2_0,hfi2_0,hli2_0,hni2_0⟩:=hbi2.lay (q);obtain⟨hki2_1,hfi2_1,hli2_1,hni2_1⟩:=hbi2.lay (b1));rw[HI.out]))))
  go_roundw
  case rel=>exact⟨2,rfl,by omega,⟨fun _=>(hm.out.1) (by omega),fun _=>HC⟩,bl⟩
  case measure=>simp[intOf]):p:=h
theorem rk122 {p:Prop} (h:p:=by
  have fk:(x1_0 != 12)=false:=by simp[hk]
  have HC:=hide (show chkP s 12 ⟨x1_0,x1_1,x1_2,x1_3,x1_4,x1_5⟩=true by unfold chkP;rw[hi];simp[hk])
  have HI:=hide hi
  clear hi hk
  have mkq:=True.intro
  repeat (any_goals ((first | clear mkq | go_quiet (fail));(try go_wp2_with (go_at_call 30;(with_reducible refine (implIn_any s ⟨x1_0,x1_1,x1_2,x1_3,x1_4,x1_5⟩ S q _ (StoreAt.bel bl HS.out) ⟨g1_0,g1_1,g1_2,g1_3,g1_4,g1_5⟩).mono ?_);rintro e wi1 ⟨rfl,hbi1⟩;(have hzi1:=hbi1.sz;obtain⟨hki1_0,hfi1_0,hli1_0,hni1_0⟩:=hbi1.lay (q);obtain⟨hki1_1,hfi1_1,hli1_1,hni1_1⟩:=hbi1.lay (b1));rw[HI.out]))))
  go_roundw
  case rel=>exact⟨1,rfl,by omega,⟨fun _=>HC,fun h=>absurd h (by omega)⟩,bl⟩
  case measure=>simp[intOf]):p:=h
theorem rk123 {p:Prop} (h:p:=by
  have hP0:=hP
  obtain⟨y,rfl,hrest⟩:=hP
  have hkp:KpN wr.heap.size wa w2:=⟨hrest.2.1.2.2.2,fun k hk1 hk2=>hrest.2.2.2 k hk2 (by omega) (fun e=>by have:=HLV.out k e;omega)⟩
  have hvb:VB w2 w.heap.size k m i t lo hi:=hG.2.1.block hrest.2.1.2.2.2 (hrest.2.2.2 w.heap.size (by have:=hG.2.1.1;omega) (by omega) (fun e=>by have:=HLV.out _ e;omega))
  have hzz:Z6 w2 (w.heap.size+1):=hG.2.2.2.1.block hrest.2.1.2.2.2 (hrest.2.2.2 (w.heap.size+1) (by omega) (by omega) (fun e=>by have:=HLV.out _ e;omega))
  rw[show TObject.mk x1_0 x1_1 (nextM mm) x1_3 x1_4=newObj (x2.getD ((m:Int)).toNat nilObj) (nextM mm)from by rw[HGD.out];rfl]at hP0
  exact hK.out _ _ hkp ⟨⟨hvb,hzz⟩,wa,LI++LJ,hG.2.2.2.2,hnd,hlm,hP0⟩ rfl):p:=h
theorem rk124 {p:Prop} (h:p:=by
  refine wpAnyH_done (by kernel_rfl) ?_ _
  clear hHeld
  have HO9:=hide (show OwnD w8 71 3 v8 (L++L6) ((xs.take (i+1)).map TRecordType.D) by rw[take_D TRecordType.D h,HX1.out];exact hO8)
  have hz8:=hbA.size
  have HB9:=hide (show ∀b,Blk v8 (L++L6) b→w.heap.size≤b from fun b hb=>hb.elim (fun q=>(hw8 b q).elim (fun q=>HB.out b (Or.inl q)) (fun q=>by have:=(Bel.trans hbA hb3).size;omega)) (fun q=>(List.mem_append.1 q).elim (fun q=>HB.out b (Or.inr q)) (fun q=>by have:=HK6.out b q;omega)))
  clear hO8 hg8 hw8 e8
  go_wp2_with (fail)
  all_goals go_roundw
  case rel=>exact⟨i+1,_,_,rfl,by go_num,by omega,hide (HO9.out.bel bl),hide HB9.out,hide (Bel.trans hb8 bl)⟩
  case measure=>simp[intOf];omega):p:=h
theorem rk125 {p:Prop} (h:p:=by
  intro j vf wa wb hk hv
  match j,hv with
  | 0,hv=>exact hv
  | 1,hv=>exact hv
  | 2,hv=>exact hv
  | 3,hv=>exact hv
  | 4,hv=>exact hv
  | 5,hv=>exact hv
  | 6,hv=>exact (by obtain⟨g,e,h1,h2⟩:=hv;exact⟨g,e,h1,KpN.obj (kpn_bel hk) h1 h2⟩)
  | 7,hv=>exact⟨hv.1.bel hk,hv.2⟩
  | 8,hv=>exact hv
  | 9,hv=>exact hv
  | n+10,hv=>exact trivial):p:=h
theorem rk126 {p:Prop} (h:p:=by
  intro j vf wa wb hjp hk hv
  match j,hv with
  | 0,hv=>exact hv
  | 1,hv=>exact hv
  | 2,hv=>exact hv
  | 3,hv=>exact hv
  | 4,hv=>exact hv
  | 5,hv=>exact hv
  | 6,hv=>exact (by obtain⟨g,e,h1,h2⟩:=hv;exact⟨g,e,h1,KpN.obj hk h1 h2⟩)
  | 8,hv=>exact hv
  | 9,hv=>exact hv
  | 7,hv=>exact absurd rfl hjp
  | n+10,hv=>exact trivial):p:=h
theorem rk127 {p:Prop} (h:p:=by
  have hv1:(a:TValue).v=⟨x1_0,x1_1,x1_2,x1_3,x1_4,x1_5⟩:=by rw[show a=_ from HX1.out];rfl
  have hv2:(b:TValue).v=⟨x2_0,x2_1,x2_2,x2_3,x2_4,x2_5⟩:=by rw[show b=_ from HX2.out];rfl
  simp[all2,hv1,hv2]):p:=h
theorem rk128 {p:Prop} (h:p:=by
  intro u wa hG hf K hK
  have e1:(u 1)=.pointer (some ⟨q,0,none⟩):=fact_ofU hf 1 (by kernel_rfl)
  clear hf
  clear hG
  simp only[Act.put,List.setIfInBounds_toArray,List.set_cons_zero,List.set_cons_succ,List.getElem_toArray,List.getElem_cons_zero,List.getElem_cons_succ]at hK ⊢
  rw[e1]at hK ⊢
  go_simp
  exact hK.out _ _ (Bel.refl _) rfl):p:=h
theorem rk129 {p:Prop} (h:p:=by
  intro u wa hG hf K hK
  have e2:(u 2)=.pointer (some ⟨q,0,none⟩):=fact_ofU hf 2 (by kernel_rfl)
  clear hf
  clear hG
  simp only[Act.put,List.setIfInBounds_toArray,List.set_cons_zero,List.set_cons_succ,List.getElem_toArray,List.getElem_cons_zero,List.getElem_cons_succ]at hK ⊢
  rw[e2]at hK ⊢
  go_simp
  exact hK.out _ _ (Bel.refl _) rfl):p:=h
theorem rk130 {p:Prop} (h:p:=by
  intro u wa hG hf K hK
  have e0:(u 0)=.pointer (some ⟨q,0,none⟩):=fact_ofU hf 0 (by kernel_rfl)
  clear hf
  clear hG
  simp only[Act.put,List.setIfInBounds_toArray,List.set_cons_zero,List.set_cons_succ,List.getElem_toArray,List.getElem_cons_zero,List.getElem_cons_succ]at hK ⊢
  rw[e0]at hK ⊢
  go_simp
  exact hK.out _ _ (Bel.refl _) rfl):p:=h
theorem rk131 {p:Prop} (h:p:=by
  intro u wa hG hf K hK
  have e8:(u 8)=.pointer (some ⟨q,0,none⟩):=fact_ofU hf 8 (by kernel_rfl)
  clear hf
  clear hG
  simp only[Act.put,List.setIfInBounds_toArray,List.set_cons_zero,List.set_cons_succ,List.getElem_toArray,List.getElem_cons_zero,List.getElem_cons_succ]at hK ⊢
  rw[e8]at hK ⊢
  go_simp
  exact hK.out _ _ (Bel.refl _) rfl):p:=h
theorem rk132 {p:Prop} (h:p:=by
  intro u wa hG hf K hK
  have g0:=g0_of hG (by kernel_rfl)
  clear hf
  clear hG
  simp only[Act.put,List.setIfInBounds_toArray,List.set_cons_zero,List.set_cons_succ,List.getElem_toArray,List.getElem_cons_zero,List.getElem_cons_succ]at hK ⊢
  obtain⟨hlo,hfo,q0,q1,q2,q3,q4⟩:=g0.2.1
  clear g0
  go_simp
  exact hK.out _ _ (Bel.refl _) rfl):p:=h
theorem rk133 {p:Prop} (h:p:=by
  have e_k3:(x3_0==1)=false:=by rw[beq_eq_false_iff_ne];omega
  have n_k3:(x3_0 != 1)=true:=by rw[bne_iff_ne];omega
  have H_in1:=hide h_in1
  have H_in2:=hide h_in2
  clear h_key0 h_in1 h_in2 h_k3
  exact rk8):p:=h
theorem rk134 {p:Prop} (h:p:=by
  have l_itl:decide ((its.length:Int)≤24)=false:=decide_eq_false (by omega)
  have g_itl:decide (24<(its.length:Int))=true:=decide_eq_true (by omega)
  clear h_tag h_key0 h_itl
  exact rk3):p:=h
theorem rk135 {p:Prop} (h:p:=by
  have l_itl:decide ((its.length:Int)≤40)=false:=decide_eq_false (by omega)
  have g_itl:decide (40<(its.length:Int))=true:=decide_eq_true (by omega)
  clear h_tag h_key0 h_itl
  exact rk3):p:=h
theorem rk136 {p:Prop} (h:p:=by
  have l_key40:decide ((keys.length:Int)≤40)=true:=decide_eq_true (by omega)
  have g_key40:decide (40<(keys.length:Int))=false:=decide_eq_false (by omega)
  have e_itk:((its.length:Int)==(keys.length:Int)+1)=false:=by rw[beq_eq_false_iff_ne];omega
  have e_itk2:((its.length:Int)==1+(keys.length:Int))=false:=by rw[beq_eq_false_iff_ne];omega
  have e_itk3:((its.length:Int)==wrap64 (1+(keys.length:Int)))=false:=by rw[itk_eq (by omega) (by omega)];exact decide_eq_false h_itk
  have H_dis:=hide h_dis
  clear h_tag h_key40 h_dis h_itk
  exact rk19):p:=h
theorem rk137 {p:Prop} (h:p:=by
  have e_key0:((keys.length:Int)==0)=false:=by rw[beq_eq_false_iff_ne];omega
  have n_key0:((keys.length:Int) != 0)=true:=by rw[bne_iff_ne];omega
  clear h_len h_tag h_key0
  exact rk3):p:=h
theorem rk138 {p:Prop} (h:p:=by
  have e_key0:((keys.length:Int)==0)=true:=by rw[beq_iff_eq];omega
  have n_key0:((keys.length:Int) != 0)=false:=by rw[bne_eq_false_iff_eq];omega
  clear h_len h_tag h_key0
  exact rk3):p:=h
theorem rk139 {p:Prop} (h:p:=by
  have hw:wellB ⟨2,u1,u2,u3,u4,u5⟩=true:=(by cases hw:wellB ⟨2,u1,u2,u3,u4,u5⟩ <;> first | rfl | (rw[inB_bad hw]at h_in1;cases h_in1))
  unfold wellB at hw
  simp at hw
  omega):p:=h
theorem rk140 {p:Prop} (h:p:=by
  have RR:=hide (show objB (TStore.mk x0 x1 x2 x3 x4 x5 x6 x7 x8 x9 x10 x11 x12) (.mk 8 tag ser [.mk 5 x1_1 x1_2 x1_3 x1_4 x1_5,.mk x2_0 x2_1 x2_2 x2_3 x2_4 x2_5] keys)=false by rw[objB_8];(try simp only[TStore.made_mk,TStore.records_mk,vAt_0,vAt_1,vAt_2]);simp[h_key0])
  have e_tag:(tag==0)=true:=by rw[beq_iff_eq];omega
  have n_tag:(tag != 0)=false:=by rw[bne_eq_false_iff_eq];omega
  have e_key0:((keys.length:Int)==0)=false:=by rw[beq_eq_false_iff_ne];omega
  have n_key0:((keys.length:Int) != 0)=true:=by rw[bne_iff_ne];omega
  exact rk14):p:=h
theorem rk141 {p:Prop} (h:p:=by
  have RR:=hide (show objB (TStore.mk x0 x1 x2 x3 x4 x5 x6 x7 x8 x9 x10 x11 x12) (.mk 8 tag ser [.mk 5 x1_1 x1_2 x1_3 x1_4 x1_5,.mk x2_0 x2_1 x2_2 x2_3 x2_4 x2_5] keys)=false by rw[objB_8];(try simp only[TStore.made_mk,TStore.records_mk,vAt_0,vAt_1,vAt_2]);simp[h_tag])
  have e_tag:(tag==0)=false:=by rw[beq_eq_false_iff_ne];omega
  have n_tag:(tag != 0)=true:=by rw[bne_iff_ne];omega
  have e_key0:((keys.length:Int)==0)=false:=by rw[beq_eq_false_iff_ne];omega
  have n_key0:((keys.length:Int) != 0)=true:=by rw[bne_iff_ne];omega
  exact rk14):p:=h
theorem rk142 {p:Prop} (h:p:=by
  have RR:=hide (show objB (TStore.mk x0 x1 x2 x3 x4 x5 x6 x7 x8 x9 x10 x11 x12) (.mk 8 tag ser [.mk 5 x1_1 x1_2 x1_3 x1_4 x1_5,.mk x2_0 x2_1 x2_2 x2_3 x2_4 x2_5] keys)=false by rw[objB_8];(try simp only[TStore.made_mk,TStore.records_mk,vAt_0,vAt_1,vAt_2]);simp[h_tag])
  have e_tag:(tag==0)=false:=by rw[beq_eq_false_iff_ne];omega
  have n_tag:(tag != 0)=true:=by rw[bne_iff_ne];omega
  have e_key0:((keys.length:Int)==0)=true:=by rw[beq_iff_eq];omega
  have n_key0:((keys.length:Int) != 0)=false:=by rw[bne_eq_false_iff_eq];omega
  exact rk14):p:=h
theorem rk143 {p:Prop} (h:p:=by
  have e_k2:(x2_0==19)=false:=by rw[beq_eq_false_iff_ne];omega
  have n_k2:(x2_0 != 19)=true:=by rw[bne_iff_ne];omega
  have H_in1:=hide h_in1
  clear h_key0 h_in1 h_k2
  exact rk12):p:=h
theorem rk144 {p:Prop} (h:p:=by
  have l_key40:decide ((keys.length:Int)≤40)=false:=decide_eq_false (by omega)
  have g_key40:decide (40<(keys.length:Int))=true:=decide_eq_true (by omega)
  have e_itk:((its.length:Int)==(keys.length:Int)+1)=false:=by rw[beq_eq_false_iff_ne];omega
  have e_itk2:((its.length:Int)==1+(keys.length:Int))=false:=by rw[beq_eq_false_iff_ne];omega
  have e_itk3:((its.length:Int)==wrap64 (1+(keys.length:Int)))=false:=by rw[itk_eq (by omega) (by omega)];exact decide_eq_false h_itk
  clear h_tag h_key40 h_itk
  exact rk3):p:=h
theorem rk145 {p:Prop} (h:p:=by
  subst hoq
  go_wp2_with (first | (go_at_call 8;refine (specValueIn_any (TStore.mk x0 x1 x2 x3 x4 x5 x6 x7 x8 x9 x10 x11 x12) ⟨k,n,i,t,lo,hi⟩ S _ _ (Dat.HoldVals.bel hbw HV.out) HX.out).mono ?_;rintro e w2 ⟨rfl,hb2⟩;rw[HI.out];obtain⟨hlv2,z0,z1,z2,z3,z4,z5⟩:=HB.out.on hb2) | (go_at_call 15;refine (specData_any (TStore.mk x0 x1 x2 x3 x4 x5 x6 x7 x8 x9 x10 x11 x12) ⟨k,n,i,t,lo,hi⟩ S _ _ (StoreAt.bel hb2 HSt.out) HX.out).mono ?_;rintro e w3 ⟨rfl,hb3⟩;rw[HD.out]))
  all_goals go_meet
  all_goals exact⟨rfl,hb2.trans hb3⟩):p:=h
theorem rk146 {p:Prop} (h:p:=by
  have e_key0:((keys.length:Int)==0)=false:=by rw[beq_eq_false_iff_ne];omega
  have n_key0:((keys.length:Int) != 0)=true:=by rw[bne_iff_ne];omega
  clear h_key0
  exact rk6):p:=h
theorem rk147 {p:Prop} (h:p:=by
  subst hoq
  go_wp2_with (first | (go_at_call 9;refine (implValid_any (TStore.mk x0 x1 x2 x3 x4 x5 x6 x7 x8 x9 x10 x11 x12) S _ _ (HT.out.on hbw) (Dat.HoldVals.bel hbw HV.out)).mono ?_;rintro e w2 ⟨rfl,hb2⟩;rw[HI.out];obtain⟨hlv2,z0,z1,z2,z3,z4,z5⟩:=HB.out.on hb2) | (go_at_call 12;refine (implData_any (TStore.mk x0 x1 x2 x3 x4 x5 x6 x7 x8 x9 x10 x11 x12) ⟨k,n,i,t,lo,hi⟩ S _ _ (StoreAt.bel hb2 HSt.out) HX.out).mono ?_;rintro e w3 ⟨rfl,hb3⟩;rw[HD.out]))
  all_goals go_meet
  all_goals exact⟨rfl,hb2.trans hb3⟩):p:=h
theorem rk148 {p:Prop} (h:p:=by
  go_wp2_with (fail)
  repeat (any_goals (go_quiet (fail);(try go_wp2_with (fail))))
  all_goals
   go_returns
   rw[HK.out]
   exact⟨some ⟨w.heap.size,0,none⟩,2,rfl,HR.out,bl⟩):p:=h
theorem rk149 {p:Prop} (h:p:=by
  intro listed a w hs hc hl hI hn
  exfalso
  have h0:(List.range ops.size).countP (fun j=>!listed.getD j true)=0:=by omega
  rw[List.countP_eq_zero]at h0
  have:=h0 m (List.mem_range.2 (by omega))
  rw[getD_true_of (by omega)]at this hl
  rw[hl]at this
  exact this rfl):p:=h
theorem rk150 {p:Prop} (h:p:=by
  have e_tag:(tag==0)=true:=by rw[beq_iff_eq];omega
  have n_tag:(tag != 0)=false:=by rw[bne_eq_false_iff_eq];omega
  have e_key0:((keys.length:Int)==0)=true:=by rw[beq_iff_eq];omega
  have n_key0:((keys.length:Int) != 0)=false:=by rw[bne_eq_false_iff_eq];omega
  have l_itl:decide ((its.length:Int)≤24)=true:=decide_eq_true (by omega)
  have g_itl:decide (24<(its.length:Int))=false:=decide_eq_false (by omega)
  have H_alli:=hide h_alli
  clear h_tag h_key0 h_itl h_alli
  exact rk20):p:=h
theorem rk151 {p:Prop} (h:p:=by
  have e_tag:(tag==0)=true:=by rw[beq_iff_eq];omega
  have n_tag:(tag != 0)=false:=by rw[bne_eq_false_iff_eq];omega
  have e_key0:((keys.length:Int)==0)=true:=by rw[beq_iff_eq];omega
  have n_key0:((keys.length:Int) != 0)=false:=by rw[bne_eq_false_iff_eq];omega
  have l_itl:decide ((its.length:Int)≤40)=true:=decide_eq_true (by omega)
  have g_itl:decide (40<(its.length:Int))=false:=decide_eq_false (by omega)
  have H_alli:=hide h_alli
  clear h_tag h_key0 h_itl h_alli
  exact rk20):p:=h
theorem rk152 {p:Prop} (h:p:=by
  have e_key0:((keys.length:Int)==0)=true:=by rw[beq_iff_eq];omega
  have n_key0:((keys.length:Int) != 0)=false:=by rw[bne_eq_false_iff_eq];omega
  exact rk14):p:=h
theorem rk153 {p:Prop} (h:p:=by
  go_wp2_with (go_at_call 50;refine (l1Below_any m c A n cap _ HC.out (by unfold InI;omega)).mono ?_;rintro e w1 ⟨x,x1,x2,rfl,hC1,hO1⟩;have HC1:=hide hC1;have HO1:=hide hO1;clear hC1 hO1;rw[hb.out]at x2;obtain⟨j,rfl⟩:=Int.eq_ofNat_of_zero_le x1;obtain⟨y,hy,hcell⟩:=(HR.out.on HO1.out hg).2 j (by omega);have i1:(j:Int)<(m:Int):=(by omega);have i2:j<m:=(by omega);have hy':=hide hy;clear hy)
  all_goals
   go_returns
   exact⟨y,hy'.out,rfl,HC1.out,HO1.out⟩):p:=h
theorem rk154 {p:Prop} (h:p:=by
  go_wp2_with (first | (go_at_call 59;refine (implIsWellFormed_any _ _ hv).mono ?_;rintro e w1 ⟨rfl,hb1⟩;(have hz1:=hb1.sz;obtain⟨hk1_0,hf1_0,hl1_0,hn1_0⟩:=hb1.lay (w.heap.size);obtain⟨hk1_1,hf1_1,hl1_1,hn1_1⟩:=hb1.lay (q));rw[HW.out])) 
  go_quiet ((go_at_call 22;refine Calls.quiet_of (HQ.out _ bl)))
  go_wp2_with (fail)
  repeat (any_goals (go_quiet (fail);(try go_wp2_with (fail))))
  all_goals
   go_returns
   exact⟨by rw[RR.out];first | done | rfl,bl⟩):p:=h
theorem rk155 {p:Prop} (h:p:=by
  have e_k1:(x1_0==5)=false:=by rw[beq_eq_false_iff_ne];omega
  have n_k1:(x1_0 != 5)=true:=by rw[bne_iff_ne];omega
  clear h_tag h_key0 h_k1
  exact rk3):p:=h
theorem rk156 {p:Prop} (h:p:=by
  have e_k1:(x1_0==2)=false:=by rw[beq_eq_false_iff_ne];omega
  have n_k1:(x1_0 != 2)=true:=by rw[bne_iff_ne];omega
  clear h_tag h_key0 h_k1
  exact rk3):p:=h
theorem rk157 {p:Prop} (h:p:=by
  have e_k2:(x2_0==1)=false:=by rw[beq_eq_false_iff_ne];omega
  have n_k2:(x2_0 != 1)=true:=by rw[bne_iff_ne];omega
  clear h_tag h_key0 h_k2
  exact rk3):p:=h
theorem rk158 {p:Prop} (h:p:=by
  have e_tag:(tag==0)=true:=by rw[beq_iff_eq];omega
  have n_tag:(tag != 0)=false:=by rw[bne_eq_false_iff_eq];omega
  have e_key0:((keys.length:Int)==0)=true:=by rw[beq_iff_eq];omega
  have n_key0:((keys.length:Int) != 0)=false:=by rw[bne_eq_false_iff_eq];omega
  have e_len:((its.length:Int)==2)=false:=by rw[beq_eq_false_iff_ne];omega
  have n_len:((its.length:Int) != 2)=true:=by rw[bne_iff_ne];omega
  clear h_tag h_key0 h_len
  exact rk6):p:=h
theorem rk159 {p:Prop} (h:p:=by
  have e_k1:(x1_0==19)=false:=by rw[beq_eq_false_iff_ne];omega
  have n_k1:(x1_0 != 19)=true:=by rw[bne_iff_ne];omega
  clear h_key0 h_k1
  exact rk3):p:=h
theorem rk160 {p:Prop} (h:p:=by
  have mkq:=True.intro
  repeat (any_goals ((first | clear mkq | go_quiet (fail));(try go_wp2_with (go_at_call 36;refine (l1InS_any _ _ _ _).mono ?_;rintro e w9 ⟨rfl,rfl⟩))))
  all_goals
   go_returns
   exact⟨ret_bl RR.out.symm,bl⟩):p:=h
theorem rk161 {p:Prop} (h:p:=by
  have hdc:decide ((i:Int)<(xs.length:Int))=false:=by simp;omega
  have HO9:=hide (show OwnD wr 71 3 v L (xs.map TRecordType.D) by have:=HO.out;rw[List.take_of_length_le (by omega)]at this;exact this)
  obtain⟨A9,n9,c9,rfl⟩:∃A9 n9 c9,v=.slice A9 n9 c9:=by obtain⟨A0,c0,L0,hv0,_⟩:=HO.out.ownRow;exact⟨_,_,_,hv0⟩
  go_wp2_with (fail)
  all_goals
   go_returns
   exact⟨_,L,rfl,HO9.out.bel bl,HB.out,Bel.trans HBR.out bl⟩):p:=h
theorem rk162 {p:Prop} (h:p:=by
  refine tkI 33 ?_
  refine tkI 34 ?_
  refine tkN 35 ?_
  refine tkN 36 ?_
  refine tkN 37 ?_
  refine tkN 38 ?_
  refine tkN 39 ?_
  refine tkN 40 ?_
  refine tkN 41 ?_
  refine tkN 42 ?_
  refine tkN 43 ?_
  refine tkN 44 ?_
  refine tkN 45 ?_
  refine tkN 46 ?_
  refine tkN 47 ?_
  refine tkI 48 ?_
  refine tkI 49 ?_
  refine wpAnyH_done (by kernel_rfl) ?_ _
  all_goals (cases bt <;> cases bk)
  all_goals (try (go_wp2_with (fail)))
  all_goals
   go_returns
   exact⟨by rw[RR.out];first | done | rfl,bl⟩):p:=h
theorem rk163 {p:Prop} (h:p:=by
  go_wp2_with (fail)
  repeat (any_goals (go_quiet (fail);(try go_wp2_with (fail))))
  all_goals
   go_returns
   exact⟨by rw[RR.out];first | done | rfl,bl⟩):p:=h
theorem rk164 {p:Prop} (h:p:=by
  intro uf wa s hs ha cl hJ K hK
  obtain⟨j_ld,j_mv,j_call,j_C,j_D,j_Z,j_X⟩:=hJ
  simp only[Act.put,List.setIfInBounds_toArray,List.set_cons_zero,List.set_cons_succ,List.getElem_toArray,List.getElem_cons_zero,List.getElem_cons_succ]at hK ⊢
  obtain⟨hlb,hfb,kb_0,kb_1,kb_2,kb_3,kb_4,kb_5,kb_6,kb_7,kb_8,kb_9,kb_10,kb_11,kb_12⟩:=j_D.box
  go_simp
  exact hK.out _ _ ⟨fun _=>rfl,j_mv,j_call,j_C,j_D,j_Z,j_X⟩):p:=h
theorem rk165 {p:Prop} (h:p:=by
  refine tkI 35 ?_
  refine tkI 36 ?_
  refine tkN 37 ?_
  refine tkN 38 ?_
  refine tkN 39 ?_
  refine tkN 40 ?_
  refine tkN 41 ?_
  refine tkN 42 ?_
  refine tkN 43 ?_
  refine tkN 44 ?_
  refine tkN 45 ?_
  refine tkN 46 ?_
  refine tkN 47 ?_
  refine tkN 48 ?_
  refine tkN 49 ?_
  refine tkI 50 ?_
  refine tkI 51 ?_
  refine wpAnyH_done (by kernel_rfl) ?_ _
  all_goals (try (go_wp2_with (fail)))
  all_goals
   go_returns
   exact⟨by rw[RR.out];first | done | rfl,bl⟩):p:=h
theorem rk166 {p:Prop} (h:p:=by
  have l_t0:decide (0≤tag)=true:=decide_eq_true (by omega)
  have l_t1:decide (tag<(x1.length:Int))=true:=decide_eq_true (by omega)
  have e_fl:((its.length:Int)==(x4_1.length:Int))=true:=by rw[beq_iff_eq];omega
  clear hx
  subst hm
  have e_key0:((keys.length:Int)==0)=false:=by rw[beq_eq_false_iff_ne];omega
  have n_key0:((keys.length:Int) != 0)=true:=by rw[bne_iff_ne];omega
  exact rk17):p:=h
theorem rk167 {p:Prop} (h:p:=by
  have l_t0:decide (0≤tag)=true:=decide_eq_true (by omega)
  have l_t1:decide (tag<(x1.length:Int))=true:=decide_eq_true (by omega)
  have e_fl:((its.length:Int)==(x4_1.length:Int))=true:=by rw[beq_iff_eq];omega
  clear hx
  subst hm
  have e_key0:((keys.length:Int)==0)=true:=by rw[beq_iff_eq];omega
  have n_key0:((keys.length:Int) != 0)=false:=by rw[bne_eq_false_iff_eq];omega
  exact rk17):p:=h
theorem rk168 {p:Prop} (h:p:=by
  have e_tag:(tag==0)=true:=by rw[beq_iff_eq];omega
  have n_tag:(tag != 0)=false:=by rw[bne_eq_false_iff_eq];omega
  exact rk4):p:=h
theorem rk169 {p:Prop} (h:p:=by
  obtain⟨hlo,hfo2,q0,q1,q2,q3,q4⟩:=g0.2.2.1
  clear g0
  go_simp
  exact hK.out _ _ (Bel.refl _) rfl (fun h=>absurd h (by decide))):p:=h
theorem rk170 {p:Prop} (h:p:=by
  have l_key40:decide ((keys.length:Int)≤40)=true:=decide_eq_true (by omega)
  have g_key40:decide (40<(keys.length:Int))=false:=decide_eq_false (by omega)
  have e_it0:((its.length:Int)==0)=false:=by rw[beq_eq_false_iff_ne];omega
  have n_it0:((its.length:Int) != 0)=true:=by rw[bne_iff_ne];omega
  have H_dis:=hide h_dis
  clear h_tag h_key40 h_dis h_it0
  exact rk19):p:=h
theorem rk171 {p:Prop} (h:p:=by
  have l_key40:decide ((keys.length:Int)≤40)=true:=decide_eq_true (by omega)
  have g_key40:decide (40<(keys.length:Int))=false:=decide_eq_false (by omega)
  have e_it0:((its.length:Int)==0)=true:=by rw[beq_iff_eq];omega
  have n_it0:((its.length:Int) != 0)=false:=by rw[bne_eq_false_iff_eq];omega
  have H_dis:=hide h_dis
  clear h_tag h_key40 h_dis h_it0
  exact rk19):p:=h
theorem rk172 {p:Prop} (h:p:=by
  have RR:=hide (show objB (TStore.mk x0 x1 x2 x3 x4 x5 x6 x7 x8 x9 x10 x11 x12) (.mk 7 tag ser its keys)=false by rw[objB_7];(try simp only[TStore.made_mk,TStore.records_mk,vAt_0,vAt_1,vAt_2]);simp[h_key0])
  have e_key0:((keys.length:Int)==0)=false:=by rw[beq_eq_false_iff_ne];omega
  have n_key0:((keys.length:Int) != 0)=true:=by rw[bne_iff_ne];omega
  exact rk25):p:=h
theorem rk173 {p:Prop} (h:p:=by
  have e_key0:((keys.length:Int)==0)=true:=by rw[beq_iff_eq];omega
  have n_key0:((keys.length:Int) != 0)=false:=by rw[bne_eq_false_iff_eq];omega
  have l_t1:decide (1≤tag)=false:=decide_eq_false (by omega)
  have g_t1:decide (tag<1)=true:=decide_eq_true (by omega)
  have g_t2:decide (0<tag)=false:=decide_eq_false (by omega)
  clear h_key0
  exact rk31):p:=h
theorem rk174 {p:Prop} (h:p:=by
  replace he:e=.returned (.agg #[.int .i64 k5,.int .i64 n5,.int .i64 i5,.string t5,.int .i64 l5,.int .i64 h5]):=he
  subst he
  exact hK.out _ _ ⟨j_ld,j_mv,fun _=>⟨⟨k5,n5,i5,t5,l5,h5⟩,hv,rfl⟩,fun h=>absurd (show true=false from h) (by decide),j_D.oth hO,fun _=>hZ.block hO.size (hO.block r2 hZ.1 hr2c),fun h=>absurd (h3.symm.trans h) (by decide)⟩):p:=h
theorem rk175 {p:Prop} (h:p:=by
  have HSW:=hsw
  have mkq:=True.intro
  repeat (any_goals ((first | clear mkq | go_quiet (fail));(try go_wp2_with (go_at_call 41;refine (specAll_any (TStore.mk x0 x1 x2 x3 x4 x5 x6 x7 x8 x9 x10 x11 x12) x3 S S w.heap.size _ _ _ (StoreAt.bel bl HSW.out) (Row.bel bl HR3.out)).mono ?_;rintro e wz ⟨rfl,hbz⟩;rw[HG.out]))))
  all_goals
   go_returns
   exact⟨ret_bl RR.out.symm,bl⟩):p:=h
theorem rk176 {p:Prop} (h:p:=by
  have l_key40:decide ((keys.length:Int)≤40)=false:=decide_eq_false (by omega)
  have g_key40:decide (40<(keys.length:Int))=true:=decide_eq_true (by omega)
  have e_it0:((its.length:Int)==0)=false:=by rw[beq_eq_false_iff_ne];omega
  have n_it0:((its.length:Int) != 0)=true:=by rw[bne_iff_ne];omega
  clear h_tag h_key40 h_it0
  exact rk3):p:=h
theorem rk177 {p:Prop} (h:p:=by
  have l_key40:decide ((keys.length:Int)≤40)=false:=decide_eq_false (by omega)
  have g_key40:decide (40<(keys.length:Int))=true:=decide_eq_true (by omega)
  have e_it0:((its.length:Int)==0)=true:=by rw[beq_iff_eq];omega
  have n_it0:((its.length:Int) != 0)=false:=by rw[bne_eq_false_iff_eq];omega
  clear h_tag h_key40 h_it0
  exact rk3):p:=h
theorem rk178 {p:Prop} (h:p:=by
  have RR:=hide (show objB (TStore.mk x0 x1 x2 x3 x4 x5 x6 x7 x8 x9 x10 x11 x12) (.mk 3 tag ser its keys)=false by rw[objB_3];(try simp only[TStore.made_mk,TStore.records_mk,vAt_0,vAt_1,vAt_2]);rw[h_dis];simp)
  have e_tag:(tag==0)=true:=by rw[beq_iff_eq];omega
  have n_tag:(tag != 0)=false:=by rw[bne_eq_false_iff_eq];omega
  exact rk13):p:=h
theorem rk179 {p:Prop} (h:p:=by
  have RR:=hide (show objB (TStore.mk x0 x1 x2 x3 x4 x5 x6 x7 x8 x9 x10 x11 x12) (.mk 3 tag ser its keys)=false by rw[objB_3];(try simp only[TStore.made_mk,TStore.records_mk,vAt_0,vAt_1,vAt_2]);simp[h_tag])
  have e_tag:(tag==0)=false:=by rw[beq_eq_false_iff_ne];omega
  have n_tag:(tag != 0)=true:=by rw[bne_iff_ne];omega
  exact rk13):p:=h
theorem rk180 {p:Prop} (h:p:=by
  have H_in1:=hide h_in1
  have H_in2:=hide h_in2
  have H_in3:=hide h_in3
  clear h_key0 h_in1 h_in2 h_in3
  exact rk0):p:=h
theorem rk181 {p:Prop} (h:p:=by
  intro uf wa s hs ha cl hJ K hK
  obtain⟨j_ld,j_mv,j_call,j_C,j_D,j_Z,j_X⟩:=hJ
  simp only[Act.put,List.setIfInBounds_toArray,List.set_cons_zero,List.set_cons_succ,List.getElem_toArray,List.getElem_cons_zero,List.getElem_cons_succ]at hK ⊢
  go_simp
  exact hK.out _ _ ⟨j_ld,fun _=>rfl,j_call,j_C,j_D,j_Z,j_X⟩):p:=h
theorem rk182 {p:Prop} (h:p:=by
  go_wp2_with (fail)
  repeat (any_goals (go_quiet (fail);(try go_wp2_with (fail))))
  go_roundw
  case rel=>exact⟨k+1,by go_num,by omega,fun j hj hjm=>by
   by_cases e:j=k
   ·
    subst e;exact HNW.out
   ·
    exact hk.out j (by omega) hjm,bl,hide (StoreAt.bel bl hsw.out)⟩
  case measure=>simp[intOf];omega):p:=h
theorem rk183 {p:Prop} (h:p:=by
  obtain⟨hlo,hfo2,q0,q1,q2,q3,q4⟩:=g0.2.2.1
  clear g0
  go_simp
  exact hK.out _ _ (Bel.refl _) rfl):p:=h
theorem rk184 {p:Prop} (h:p:=by
  have hd:decide ((m:Int)<(l.length:Int))=false:=by simp[h1]
  have HA:=hide (dist_of (l:=l) fun i hi k hk=>hm.out i hi k hk (by omega))
  go_wp2_with (fail)
  repeat (any_goals (go_quiet (fail);(try go_wp2_with (fail))))
  all_goals
   go_returns
   exact⟨by rw[HA.out];first | done | rfl,bl⟩):p:=h
theorem rk185 {p:Prop} (h:p:=by
  have hd:decide ((m:Int)<(l.length:Int))=false:=by simp[h1]
  have HA:=hide (all_of (s:=s) (l:=l) fun k hk=>hm.out k hk (by omega))
  go_wp2_with (fail)
  repeat (any_goals (go_quiet (fail);(try go_wp2_with (fail))))
  all_goals
   go_returns
   exact⟨by rw[HA.out];first | done | rfl,bl⟩):p:=h
theorem rk186 {p:Prop} (h:p:=by
  have hne:=h.ne
  exact⟨h.cur0,hc,⟨h.st.box.block k.size (k.block q h.st.box.1 (by omega)),h.st.ents.keep k.size (fun e he b hb=>k.block b ((h.st.ents.own e he).lt b hb) (by have:=h.st.ents.low e he b hb;omega)),h.st.low⟩,h.ne,h.oth.trans k,h.ok,h.sml⟩):p:=h
theorem rk187 {p:Prop} (h:p:=by
  have:=List.countP_le_length (l:=List.range ops.size) (p:=fun j=>!(Array.replicate ops.size false).getD j true)
  simpa using this):p:=h
theorem rk188 {p:Prop} (h:p:=by
  rcases hn x q with q | q
  ·
   exact Or.inl (Or.inl q)
  ·
   exact Or.inr ⟨by omega,fun f hf hb=>by have:=hlt f hf x hb;omega⟩):p:=h
theorem rk189 {p:Prop} (h:p:=by
  go_wp2_with (fail)
  all_goals go_meet
  all_goals exact⟨_,_,_,_,_,_,_,_,its,kys,by omega,by omega,by omega,HT.out⟩):p:=h
theorem rk190 {p:Prop} (h:p:=by
  have e_key0:((keys.length:Int)==0)=false:=by rw[beq_eq_false_iff_ne];omega
  have n_key0:((keys.length:Int) != 0)=true:=by rw[bne_iff_ne];omega
  have H_in1:=hide h_in1
  have H_in2:=hide h_in2
  clear h_key0 h_in1 h_in2
  exact rk8):p:=h
theorem rk191 {p:Prop} (h:p:=by
  have e_key0:((keys.length:Int)==0)=true:=by rw[beq_iff_eq];omega
  have n_key0:((keys.length:Int) != 0)=false:=by rw[bne_eq_false_iff_eq];omega
  have H_in1:=hide h_in1
  have H_in2:=hide h_in2
  clear h_key0 h_in1 h_in2
  exact rk8):p:=h
theorem rk192 {p:Prop} (h:p:=by
  refine Or.inr ⟨hg1 hpl,?_⟩
  cases hb:(aheadOf ops 12 [p]).contains i with
  | false=>rfl
  | true =>
   have h3:=ahead_closed hc 12 [p] (fun k hk=>by rw[List.mem_singleton.1 hk];exact hpl) i (by simpa using hb)
   rw[hif]at h3
   cases h3):p:=h
theorem rk193 {p:Prop} (h:p:=by
  go_roundw
  case rel=>exact⟨m+1,by go_num,by omega,fun j hj hjm=>by
   by_cases e:j=m
   ·
    subst e;exact HNW.out
   ·
    exact hm.out j hj (by omega),bl,hide (StoreAt.bel bl hsw.out)⟩
  case measure=>simp[intOf];omega):p:=h
theorem rk194 {p:Prop} (h:p:=by
  rcases Nat.lt_or_ge j m with h2 | h2
  ·
   exact h2
  ·
   obtain rfl:j=m:=by omega
   rw[hl]at hj;cases hj):p:=h
theorem rk195 {p:Prop} (h:p:=by
  have e_key0:((keys.length:Int)==0)=false:=by rw[beq_eq_false_iff_ne];omega
  have n_key0:((keys.length:Int) != 0)=true:=by rw[bne_iff_ne];omega
  have H_in1:=hide h_in1
  clear h_key0 h_in1
  exact rk12):p:=h
theorem rk196 {p:Prop} (h:p:=by
  have e_key0:((keys.length:Int)==0)=true:=by rw[beq_iff_eq];omega
  have n_key0:((keys.length:Int) != 0)=false:=by rw[bne_eq_false_iff_eq];omega
  have H_in1:=hide h_in1
  clear h_key0 h_in1
  exact rk12):p:=h
theorem rk197 {p:Prop} (h:p:=by
  go_roundw
  case rel=>exact⟨m+1,by go_num,by omega,fun j hj hjm=>by
   by_cases e:j=m
   ·
    subst e;exact HD.out.trans HN.out
   ·
    exact hm.out j hj (by omega),bl⟩
  case measure=>simp[intOf];omega):p:=h
theorem rk198 {p:Prop} (h:p:=by
  simp[Array.getElem?_eq_none (show (Array.replicate ops.size false).size≤j by simpa using h)]at hj):p:=h
theorem rk199 {p:Prop} (h:p:=by
  have e_key0:((keys.length:Int)==0)=false:=by rw[beq_eq_false_iff_ne];omega
  have n_key0:((keys.length:Int) != 0)=true:=by rw[bne_iff_ne];omega
  clear h_len h_key0
  exact rk3):p:=h
theorem rk200 {p:Prop} (h:p:=by
  have e_key0:((keys.length:Int)==0)=true:=by rw[beq_iff_eq];omega
  have n_key0:((keys.length:Int) != 0)=false:=by rw[bne_eq_false_iff_eq];omega
  clear h_len h_key0
  exact rk3):p:=h
theorem rk201 {p:Prop} (h:p:=by
  go_wp2_with (fail)
  all_goals
   go_returns
   refine⟨rfl,⟨by simp,fun o=>by simp,(HB.out _ (Nat.le_refl _)).on (Oth.of_bel bl),0,h,by omega,by simp,by simp,by simp⟩,bl⟩):p:=h
theorem rk202 {p:Prop} (h:p:=by
  have e_key0:((keys.length:Int)==0)=true:=by rw[beq_iff_eq];omega
  have n_key0:((keys.length:Int) != 0)=false:=by rw[bne_eq_false_iff_eq];omega
  exact rk25):p:=h
theorem rk203 {p:Prop} (h:p:=by
  have h3:=hdp j (hjm j hj) i (by simpa using hb)
  have h4:=ahead_closed hc 12 (waitsFor ops j) (fun k hk=>hc j hj k hk) i (by simpa using h3)
  rw[hif]at h4;cases h4):p:=h
theorem rk204 {p:Prop} (h:p:=by
  obtain⟨AI,dI,L9,hvv,-⟩:=hO.ownRow
  rw[List.length_map]at hvv
  subst hvv
  exact hK.out _ _ hb2 ⟨AI,dI,rfl,hO,fun q hq=>Nat.le_trans hz9 (hn q hq)⟩):p:=h
theorem rk205 {p:Prop} (h:p:=by
  unfold wellB at hw
  rcases h with h | h
  ·
   repeat rw[if_neg (by simp only;omega)]at hw
   cases hw
  ·
   repeat rw[if_neg (by simp only;omega)]at hw
   cases hw):p:=h
theorem rk206 {p:Prop} (h:p:=by
  go_wp2_with (fail)
  repeat (any_goals (go_quiet (fail);(try go_wp2_with (fail))))
  all_goals
   go_returns
   exact⟨by rw[HA.out];first | done | rfl,bl⟩):p:=h
theorem rk207 {p:Prop} (h:p:=by
  go_wp2_with (fail)
  all_goals go_roundw
  case rel=>exact⟨i+1,_,_,by go_num,by omega,hide HGN.out⟩
  case measure=>simp[intOf];omega):p:=h
theorem rk208 {p:Prop} (h:p:=by
  unfold World.cell?
  show (match (w.alloc _).heap[w.heap.size]? with | some (.cells c _ _)=>_ | _=>_)=_
  rw[heap_alloc_new]
  simp[hj]):p:=h
theorem rk209 {p:Prop} (h:p:=by
  rw[show tag.toNat=m by omega]
  have:x1.getD m (.mk ByteArray.empty [] 0)=x1[m]:=by simp[List.getD,hlt]
  rw[this,HX4.out];rfl):p:=h
theorem rk210 {p:Prop} (h:p:=by
  go_wp2_with (fail)
  repeat (any_goals (go_quiet (fail);(try go_wp2_with (fail))))
  all_goals
   go_returns
   exact⟨⟨_,rfl⟩,bl⟩):p:=h
theorem rk211 {p:Prop} (h:p:=by
  have RR:=hide (show patB s tag its=false by unfold patB;rw[decide_eq_false (by omega)];simp)
  have HL:=hide hl
  exact rk40):p:=h
theorem rk212 {p:Prop} (h:p:=by
  have RR:=hide (inB_bad (s:=(TStore.mk x0 x1 x2 x3 x4 x5 x6 x7 x8 x9 x10 x11 x12)) hw)
  have HW:=hide hw
  exact rk37):p:=h
theorem rk213 {p:Prop} (h:p:=by
  go_enter Tryd.func17,Tryd.ntmps17
  go_wp2_with (fail)
  all_goals
   go_returns
   exact⟨by first | rfl | trivial,bl⟩):p:=h
theorem rk214 {p:Prop} (h:p:=by
  go_enter Tryd.func14,Tryd.ntmps14
  go_wp2_with (fail)
  all_goals
   go_returns
   exact⟨by first | rfl | trivial,bl⟩):p:=h
theorem rk215 {p:Prop} (h:p:=by
  rintro (q | q)
  ·
   rcases hn d q with q | q
   ·
    exact hd (EV vi its) (by simp) (Or.inl q)
   ·
    omega
  ·
   cases q):p:=h
theorem rk216 {p:Prop} (h:p:=by
  rw[getD_set_ne false h]at hj
  rw[maskU_upd (fun e=>h e.symm) (hdep j hj)]
  exact hk j (fun e=>h e.symm) hj):p:=h
theorem rk217 {p:Prop} (h:p:=by
  unfold kindI
  rcases (show k=4∨k=5∨k=6∨k=7 by omega)with rfl | rfl | rfl | rfl <;> decide):p:=h
theorem rk218 {p:Prop} (h:p:=by
  go_roundw
  case rel=>exact⟨m+1,by go_num,by omega,HM.out,bl⟩
  case measure=>simp[intOf];omega):p:=h
end Go.Proofs.YtoikhhnmbbbjjaaDoor
