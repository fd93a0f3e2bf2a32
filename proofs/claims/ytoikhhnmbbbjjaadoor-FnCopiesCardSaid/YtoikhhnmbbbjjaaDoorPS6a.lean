/- Objects: the reference. -/
import Derived.Test.YtoikhhnmbbbjjaaDoorPr
import Derived.Test.YtoikhhnmbbbjjaaDoorPS2z
namespace Go.Proofs.YtoikhhnmbbbjjaaDoor
set_option linter.unusedVariables false
set_option linter.unusedSimpArgs false
set_option maxRecDepth 100000
open Go.RowKit
--%quiet
set_option maxHeartbeats 8000000 in
theorem specObj_1 (tag ser:Int) (its keys:List TValue) (s:TStore):ObjC 40 s (.mk 1 tag ser its keys):=by
 intro S S' q w vs hs hv
 have HS:=hide hs
 obtain⟨Ai,ci,Ak,ck,rfl,_,htag,hser,hRi,hRk⟩:=TObject.vals hv
 have HRi:=hide hRi
 have HRk:=hide hRk
 have hli:=hRi.1
 have hmi:=hRi.2.1
 have hlk:=hRk.1
 have hmk:=hRk.2.1
 simp only[List.length_map]at hli hlk
 unfold maxLen at hmi hmk
 clear hRi hRk hv
 obtain⟨x0,x1,x2,x3,x4,x5,x6,x7,x8,x9,x10,x11,x12⟩:=s
 have HSt:=hide hs
 obtain⟨A0,c0,A1,c1,A2,c2,A3,c3,A6,c6,A7,c7,A8,c8,hq,e0,e1,e2,e3,e4,e5,e6,e7,e8,e9,e10,e11,e12,hlc0,hcm0,hlc1,hcm1,hlc2,hcm2,hlc3,hcm3,hlc6,hcm6,hlc7,hcm7,hlc8,hcm8,g4,g5,g10,g11,g12,-,HR1,-,-,-,-,-⟩:=StoreAt.opn hs
 clear hs
 have hqn:¬q=w.heap.size:=by omega
 have hbw:Bel w w:=Bel.refl w
 by_cases hs1:¬ser=0
 case pos =>
  have RR:=hide (show objB (TStore.mk x0 x1 x2 x3 x4 x5 x6 x7 x8 x9 x10 x11 x12) (.mk 1 tag ser its keys)=false by rw[objB_1];show (decide (ser=0)&&_)=false;rw[decide_eq_false hs1];rfl)
  have ds1:(ser != 0)=true:=by simp;omega
  exact rk6
 case neg =>
 have ds1:(ser != 0)=false:=by simp;omega
 by_cases h_tag:tag=0
 case neg =>
  have RR:=hide (show objB (TStore.mk x0 x1 x2 x3 x4 x5 x6 x7 x8 x9 x10 x11 x12) (.mk 1 tag ser its keys)=false by rw[objB_1];(try simp only[TStore.made_mk,TStore.records_mk,vAt_0,vAt_1,vAt_2]);simp[h_tag])
  exact rk113
 case pos =>
 by_cases h_key0:keys.length=0
 case neg =>
  have RR:=hide (show objB (TStore.mk x0 x1 x2 x3 x4 x5 x6 x7 x8 x9 x10 x11 x12) (.mk 1 tag ser its keys)=false by rw[objB_1];(try simp only[TStore.made_mk,TStore.records_mk,vAt_0,vAt_1,vAt_2]);simp[h_key0])
  exact rk87
 case pos =>
 by_cases h_itl:its.length≤24
 case neg =>
  have RR:=hide (show objB (TStore.mk x0 x1 x2 x3 x4 x5 x6 x7 x8 x9 x10 x11 x12) (.mk 1 tag ser its keys)=false by rw[objB_1];(try simp only[TStore.made_mk,TStore.records_mk,vAt_0,vAt_1,vAt_2]);simp[h_itl])
  have e_tag:(tag==0)=true:=by rw[beq_iff_eq];omega
  have n_tag:(tag != 0)=false:=by rw[bne_eq_false_iff_eq];omega
  have e_key0:((keys.length:Int)==0)=true:=by rw[beq_iff_eq];omega
  have n_key0:((keys.length:Int) != 0)=false:=by rw[bne_eq_false_iff_eq];omega
  have l_itl:decide ((its.length:Int)≤24)=false:=decide_eq_false (by omega)
  have g_itl:decide (24<(its.length:Int))=true:=decide_eq_true (by omega)
  clear h_tag h_key0 h_itl
  exact rk6
 case pos =>
 cases h_alli:allB (TStore.mk x0 x1 x2 x3 x4 x5 x6 x7 x8 x9 x10 x11 x12) its
 case false =>
  have RR:=hide (show objB (TStore.mk x0 x1 x2 x3 x4 x5 x6 x7 x8 x9 x10 x11 x12) (.mk 1 tag ser its keys)=false by rw[objB_1];(try simp only[TStore.made_mk,TStore.records_mk,vAt_0,vAt_1,vAt_2]);rw[h_alli];simp)
  exact rk150
 case true =>
 have RR:=hide (show objB (TStore.mk x0 x1 x2 x3 x4 x5 x6 x7 x8 x9 x10 x11 x12) (.mk 1 tag ser its keys)=true by rw[objB_1];(try simp only[TStore.made_mk,TStore.records_mk,vAt_0,vAt_1,vAt_2]);(try simp only[TValue.v]);simp only[Bool.and_eq_true,decide_eq_true_eq];(repeat' apply And.intro) <;> first | assumption | trivial | exact decide_eq_true ⟨by omega,by omega⟩ | exact decide_eq_true (by omega) | rfl | omega)
 exact rk150
set_option maxHeartbeats 8000000 in
theorem specObj_2 (tag ser:Int) (its keys:List TValue) (s:TStore):ObjC 40 s (.mk 2 tag ser its keys):=by
 intro S S' q w vs hs hv
 have HS:=hide hs
 obtain⟨Ai,ci,Ak,ck,rfl,_,htag,hser,hRi,hRk⟩:=TObject.vals hv
 have HRi:=hide hRi
 have HRk:=hide hRk
 have hli:=hRi.1
 have hmi:=hRi.2.1
 have hlk:=hRk.1
 have hmk:=hRk.2.1
 simp only[List.length_map]at hli hlk
 unfold maxLen at hmi hmk
 clear hRi hRk hv
 obtain⟨x0,x1,x2,x3,x4,x5,x6,x7,x8,x9,x10,x11,x12⟩:=s
 have HSt:=hide hs
 obtain⟨A0,c0,A1,c1,A2,c2,A3,c3,A6,c6,A7,c7,A8,c8,hq,e0,e1,e2,e3,e4,e5,e6,e7,e8,e9,e10,e11,e12,hlc0,hcm0,hlc1,hcm1,hlc2,hcm2,hlc3,hcm3,hlc6,hcm6,hlc7,hcm7,hlc8,hcm8,g4,g5,g10,g11,g12,-,HR1,-,-,-,-,-⟩:=StoreAt.opn hs
 clear hs
 have hqn:¬q=w.heap.size:=by omega
 have hbw:Bel w w:=Bel.refl w
 by_cases hs1:ser<1
 case pos =>
  have RR:=hide (show objB (TStore.mk x0 x1 x2 x3 x4 x5 x6 x7 x8 x9 x10 x11 x12) (.mk 2 tag ser its keys)=false by rw[objB_2];show (decide (1≤ser∧ser≤x12)&&_)=false;rw[decide_eq_false (show ¬(1≤ser∧ser≤x12) by omega)];rfl)
  have ds1:decide (ser<1)=true:=by simp;omega
  exact rk6
 case neg =>
 have ds1:decide (ser<1)=false:=by simp;omega
 by_cases hs2:x12<ser
 case pos =>
  have RR:=hide (show objB (TStore.mk x0 x1 x2 x3 x4 x5 x6 x7 x8 x9 x10 x11 x12) (.mk 2 tag ser its keys)=false by rw[objB_2];show (decide (1≤ser∧ser≤x12)&&_)=false;rw[decide_eq_false (show ¬(1≤ser∧ser≤x12) by omega)];rfl)
  have ds2:decide (x12<ser)=true:=by simp;omega
  exact rk6
 case neg =>
 have ds2:decide (x12<ser)=false:=by simp;omega
 by_cases h_tag:tag=0
 case neg =>
  have RR:=hide (show objB (TStore.mk x0 x1 x2 x3 x4 x5 x6 x7 x8 x9 x10 x11 x12) (.mk 2 tag ser its keys)=false by rw[objB_2];(try simp only[TStore.made_mk,TStore.records_mk,vAt_0,vAt_1,vAt_2]);simp[h_tag])
  exact rk113
 case pos =>
 by_cases h_key0:keys.length=0
 case neg =>
  have RR:=hide (show objB (TStore.mk x0 x1 x2 x3 x4 x5 x6 x7 x8 x9 x10 x11 x12) (.mk 2 tag ser its keys)=false by rw[objB_2];(try simp only[TStore.made_mk,TStore.records_mk,vAt_0,vAt_1,vAt_2]);simp[h_key0])
  exact rk87
 case pos =>
 by_cases h_itl:its.length≤40
 case neg =>
  have RR:=hide (show objB (TStore.mk x0 x1 x2 x3 x4 x5 x6 x7 x8 x9 x10 x11 x12) (.mk 2 tag ser its keys)=false by rw[objB_2];(try simp only[TStore.made_mk,TStore.records_mk,vAt_0,vAt_1,vAt_2]);simp[h_itl])
  have e_tag:(tag==0)=true:=by rw[beq_iff_eq];omega
  have n_tag:(tag != 0)=false:=by rw[bne_eq_false_iff_eq];omega
  have e_key0:((keys.length:Int)==0)=true:=by rw[beq_iff_eq];omega
  have n_key0:((keys.length:Int) != 0)=false:=by rw[bne_eq_false_iff_eq];omega
  have l_itl:decide ((its.length:Int)≤40)=false:=decide_eq_false (by omega)
  have g_itl:decide (40<(its.length:Int))=true:=decide_eq_true (by omega)
  clear h_tag h_key0 h_itl
  exact rk6
 case pos =>
 cases h_alli:allB (TStore.mk x0 x1 x2 x3 x4 x5 x6 x7 x8 x9 x10 x11 x12) its
 case false =>
  have RR:=hide (show objB (TStore.mk x0 x1 x2 x3 x4 x5 x6 x7 x8 x9 x10 x11 x12) (.mk 2 tag ser its keys)=false by rw[objB_2];(try simp only[TStore.made_mk,TStore.records_mk,vAt_0,vAt_1,vAt_2]);rw[h_alli];simp)
  exact rk151
 case true =>
 have RR:=hide (show objB (TStore.mk x0 x1 x2 x3 x4 x5 x6 x7 x8 x9 x10 x11 x12) (.mk 2 tag ser its keys)=true by rw[objB_2];(try simp only[TStore.made_mk,TStore.records_mk,vAt_0,vAt_1,vAt_2]);(try simp only[TValue.v]);simp only[Bool.and_eq_true,decide_eq_true_eq];(repeat' apply And.intro) <;> first | assumption | trivial | exact decide_eq_true ⟨by omega,by omega⟩ | exact decide_eq_true (by omega) | rfl | omega)
 exact rk151
end Go.Proofs.YtoikhhnmbbbjjaaDoor
namespace Go.Proofs.YtoikhhnmbbbjjaaDoor
set_option linter.unusedVariables false
set_option linter.unusedSimpArgs false
set_option maxRecDepth 100000
open Go.RowKit
--%quiet
set_option maxHeartbeats 8000000 in
theorem specObj_3 (tag ser:Int) (its keys:List TValue) (s:TStore):ObjC 40 s (.mk 3 tag ser its keys):=by
 intro S S' q w vs hs hv
 have HS:=hide hs
 obtain⟨Ai,ci,Ak,ck,rfl,_,htag,hser,hRi,hRk⟩:=TObject.vals hv
 have HRi:=hide hRi
 have HRk:=hide hRk
 have hli:=hRi.1
 have hmi:=hRi.2.1
 have hlk:=hRk.1
 have hmk:=hRk.2.1
 simp only[List.length_map]at hli hlk
 unfold maxLen at hmi hmk
 clear hRi hRk hv
 obtain⟨x0,x1,x2,x3,x4,x5,x6,x7,x8,x9,x10,x11,x12⟩:=s
 have HSt:=hide hs
 obtain⟨A0,c0,A1,c1,A2,c2,A3,c3,A6,c6,A7,c7,A8,c8,hq,e0,e1,e2,e3,e4,e5,e6,e7,e8,e9,e10,e11,e12,hlc0,hcm0,hlc1,hcm1,hlc2,hcm2,hlc3,hcm3,hlc6,hcm6,hlc7,hcm7,hlc8,hcm8,g4,g5,g10,g11,g12,-,HR1,-,-,-,-,-⟩:=StoreAt.opn hs
 clear hs
 have hqn:¬q=w.heap.size:=by omega
 have hbw:Bel w w:=Bel.refl w
 by_cases hs1:ser<1
 case pos =>
  have RR:=hide (show objB (TStore.mk x0 x1 x2 x3 x4 x5 x6 x7 x8 x9 x10 x11 x12) (.mk 3 tag ser its keys)=false by rw[objB_3];show (decide (1≤ser∧ser≤x12)&&_)=false;rw[decide_eq_false (show ¬(1≤ser∧ser≤x12) by omega)];rfl)
  have ds1:decide (ser<1)=true:=by simp;omega
  exact rk6
 case neg =>
 have ds1:decide (ser<1)=false:=by simp;omega
 by_cases hs2:x12<ser
 case pos =>
  have RR:=hide (show objB (TStore.mk x0 x1 x2 x3 x4 x5 x6 x7 x8 x9 x10 x11 x12) (.mk 3 tag ser its keys)=false by rw[objB_3];show (decide (1≤ser∧ser≤x12)&&_)=false;rw[decide_eq_false (show ¬(1≤ser∧ser≤x12) by omega)];rfl)
  have ds2:decide (x12<ser)=true:=by simp;omega
  exact rk6
 case neg =>
 have ds2:decide (x12<ser)=false:=by simp;omega
 by_cases h_tag:tag=0
 case neg =>
  have RR:=hide (show objB (TStore.mk x0 x1 x2 x3 x4 x5 x6 x7 x8 x9 x10 x11 x12) (.mk 3 tag ser its keys)=false by rw[objB_3];(try simp only[TStore.made_mk,TStore.records_mk,vAt_0,vAt_1,vAt_2]);simp[h_tag])
  exact rk113
 case pos =>
 by_cases h_key40:keys.length≤40
 case neg =>
  have RR:=hide (show objB (TStore.mk x0 x1 x2 x3 x4 x5 x6 x7 x8 x9 x10 x11 x12) (.mk 3 tag ser its keys)=false by rw[objB_3];(try simp only[TStore.made_mk,TStore.records_mk,vAt_0,vAt_1,vAt_2]);simp[h_key40])
  have e_tag:(tag==0)=true:=by rw[beq_iff_eq];omega
  have n_tag:(tag != 0)=false:=by rw[bne_eq_false_iff_eq];omega
  have l_key40:decide ((keys.length:Int)≤40)=false:=decide_eq_false (by omega)
  have g_key40:decide (40<(keys.length:Int))=true:=decide_eq_true (by omega)
  clear h_tag
  exact rk6
 case pos =>
 by_cases h_itk:its.length=keys.length+1
 case neg =>
  have RR:=hide (show objB (TStore.mk x0 x1 x2 x3 x4 x5 x6 x7 x8 x9 x10 x11 x12) (.mk 3 tag ser its keys)=false by rw[objB_3];(try simp only[TStore.made_mk,TStore.records_mk,vAt_0,vAt_1,vAt_2]);simp[h_itk])
  have e_tag:(tag==0)=true:=by rw[beq_iff_eq];omega
  have n_tag:(tag != 0)=false:=by rw[bne_eq_false_iff_eq];omega
  have l_key40:decide ((keys.length:Int)≤40)=true:=decide_eq_true (by omega)
  have g_key40:decide (40<(keys.length:Int))=false:=decide_eq_false (by omega)
  have e_itk:((its.length:Int)==(keys.length:Int)+1)=false:=by rw[beq_eq_false_iff_ne];omega
  have e_itk2:((its.length:Int)==1+(keys.length:Int))=false:=by rw[beq_eq_false_iff_ne];omega
  clear h_tag h_itk
  exact rk6
 case pos =>
 cases h_alli:allB (TStore.mk x0 x1 x2 x3 x4 x5 x6 x7 x8 x9 x10 x11 x12) its
 case false =>
  have RR:=hide (show objB (TStore.mk x0 x1 x2 x3 x4 x5 x6 x7 x8 x9 x10 x11 x12) (.mk 3 tag ser its keys)=false by rw[objB_3];(try simp only[TStore.made_mk,TStore.records_mk,vAt_0,vAt_1,vAt_2]);rw[h_alli];simp)
  have e_tag:(tag==0)=true:=by rw[beq_iff_eq];omega
  have n_tag:(tag != 0)=false:=by rw[bne_eq_false_iff_eq];omega
  have l_key40:decide ((keys.length:Int)≤40)=true:=decide_eq_true (by omega)
  have g_key40:decide (40<(keys.length:Int))=false:=decide_eq_false (by omega)
  have e_itk:((its.length:Int)==(keys.length:Int)+1)=true:=by rw[beq_iff_eq];omega
  have e_itk2:((its.length:Int)==1+(keys.length:Int))=true:=by rw[beq_iff_eq];omega
  have H_alli:=hide h_alli
  clear h_tag h_itk h_alli
  exact rk20
 case true =>
 cases h_allk:allB (TStore.mk x0 x1 x2 x3 x4 x5 x6 x7 x8 x9 x10 x11 x12) keys
 case false =>
  have RR:=hide (show objB (TStore.mk x0 x1 x2 x3 x4 x5 x6 x7 x8 x9 x10 x11 x12) (.mk 3 tag ser its keys)=false by rw[objB_3];(try simp only[TStore.made_mk,TStore.records_mk,vAt_0,vAt_1,vAt_2]);rw[h_allk];simp)
  have e_tag:(tag==0)=true:=by rw[beq_iff_eq];omega
  have n_tag:(tag != 0)=false:=by rw[bne_eq_false_iff_eq];omega
  have l_key40:decide ((keys.length:Int)≤40)=true:=decide_eq_true (by omega)
  have g_key40:decide (40<(keys.length:Int))=false:=decide_eq_false (by omega)
  have e_itk:((its.length:Int)==(keys.length:Int)+1)=true:=by rw[beq_iff_eq];omega
  have e_itk2:((its.length:Int)==1+(keys.length:Int))=true:=by rw[beq_iff_eq];omega
  have H_alli:=hide h_alli
  have H_allk:=hide h_allk
  clear h_tag h_itk h_alli h_allk
  go_enter Tryd.func40,Tryd.ntmps40
  have mkq:=True.intro
  repeat (any_goals ((first | clear mkq | go_quiet (fail));(try go_wp2_with (first | (go_at_call 41;(with_reducible refine (specAll_any (TStore.mk x0 x1 x2 x3 x4 x5 x6 x7 x8 x9 x10 x11 x12) its S S' q _ _ _ (StoreAt.bel bl HS.out) (Row.bel bl HRi.out)).mono ?_);rintro e wai ⟨rfl,hbai⟩;rw[H_alli.out];(have hzai:=hbai.sz;obtain⟨hkai_0,hfai_0,hlai_0,hnai_0⟩:=hbai.lay (w.heap.size);obtain⟨hkai_1,hfai_1,hlai_1,hnai_1⟩:=hbai.lay (q))) | (go_at_call 41;(with_reducible refine (specAll_any (TStore.mk x0 x1 x2 x3 x4 x5 x6 x7 x8 x9 x10 x11 x12) keys S S' q _ _ _ (StoreAt.bel bl HS.out) (Row.bel bl HRk.out)).mono ?_);rintro e wak ⟨rfl,hbak⟩;rw[H_allk.out];(have hzak:=hbak.sz;obtain⟨hkak_0,hfak_0,hlak_0,hnak_0⟩:=hbak.lay (w.heap.size);obtain⟨hkak_1,hfak_1,hlak_1,hnak_1⟩:=hbak.lay (q)))))))
  all_goals
   go_returns
   exact⟨by rw[RR.out];first | done | rfl,bl⟩
 case true =>
 cases h_dis:distB keys
 case false =>
  have RR:=hide (show objB (TStore.mk x0 x1 x2 x3 x4 x5 x6 x7 x8 x9 x10 x11 x12) (.mk 3 tag ser its keys)=false by rw[objB_3];(try simp only[TStore.made_mk,TStore.records_mk,vAt_0,vAt_1,vAt_2]);rw[h_dis];simp)
  exact rk24
 case true =>
 have RR:=hide (show objB (TStore.mk x0 x1 x2 x3 x4 x5 x6 x7 x8 x9 x10 x11 x12) (.mk 3 tag ser its keys)=true by rw[objB_3];(try simp only[TStore.made_mk,TStore.records_mk,vAt_0,vAt_1,vAt_2]);(try simp only[TValue.v]);simp only[Bool.and_eq_true,decide_eq_true_eq];(repeat' apply And.intro) <;> first | assumption | trivial | exact decide_eq_true ⟨by omega,by omega⟩ | exact decide_eq_true (by omega) | rfl | omega)
 exact rk24
end Go.Proofs.YtoikhhnmbbbjjaaDoor
