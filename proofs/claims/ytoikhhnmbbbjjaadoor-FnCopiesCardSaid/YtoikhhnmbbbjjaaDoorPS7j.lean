/- Objects: the program. -/
import Derived.Test.YtoikhhnmbbbjjaaDoorPr
import Derived.Test.YtoikhhnmbbbjjaaDoorPS5bz
namespace Go.Proofs.YtoikhhnmbbbjjaaDoor
set_option linter.unusedVariables false
set_option linter.unusedSimpArgs false
set_option maxRecDepth 100000
open Go.RowKit
--%quiet
set_option maxHeartbeats 8000000 in
theorem implObj_3_a (tag ser:Int) (its keys:List TValue) (s:TStore) (h_tag:tag=0) (h_key40:keys.length≤40):ObjC 24 s (.mk 3 tag ser its keys):=by
 intro S S' q w vs hs hv
 have HS:=hide hs
 obtain⟨Ai,ci,Ak,ck,rfl,_,htag,hser,hRi,hRk⟩:=TObject.vals hv
 have HRi:=hide hRi
 have HRk:=hide hRk
 have hli:=hRi.1
 have hmi:=hRi.2.1
 have hlk:=hRk.1
 have hmk:=hRk.2.1
 simp only[List.length_map]at hli hlk
 unfold maxLen at hmi hmk
 clear hRi hRk hv
 obtain⟨x0,x1,x2,x3,x4,x5,x6,x7,x8,x9,x10,x11,x12⟩:=s
 have HSt:=hide hs
 obtain⟨A0,c0,A1,c1,A2,c2,A3,c3,A6,c6,A7,c7,A8,c8,hq,e0,e1,e2,e3,e4,e5,e6,e7,e8,e9,e10,e11,e12,hlc0,hcm0,hlc1,hcm1,hlc2,hcm2,hlc3,hcm3,hlc6,hcm6,hlc7,hcm7,hlc8,hcm8,g4,g5,g10,g11,g12,-,HR1,-,-,-,-,-⟩:=StoreAt.opn hs
 clear hs
 have hqn:¬q=w.heap.size:=by omega
 have hbw:Bel w w:=Bel.refl w
 by_cases hs1:ser<1
 case pos =>
  exact rk117
 case neg =>
 have ds1:decide (ser<1)=false:=by simp;omega
 by_cases hs2:x12<ser
 case pos =>
  exact rk116
 case neg =>
 have ds2:decide (x12<ser)=false:=by simp;omega
 cases h_dis:distB keys
 case false =>
  by_cases h_itk:its.length=keys.length+1
  case neg =>
   have RR:=hide (show objB (TStore.mk x0 x1 x2 x3 x4 x5 x6 x7 x8 x9 x10 x11 x12) (.mk 3 tag ser its keys)=false by rw[objB_3];(try simp only[TStore.made_mk,TStore.records_mk,vAt_0,vAt_1,vAt_2]);rw[h_dis];simp)
   have e_tag:(tag==0)=true:=by rw[beq_iff_eq];omega
   have n_tag:(tag != 0)=false:=by rw[bne_eq_false_iff_eq];omega
   exact rk136
  case pos =>
  cases h_alli:allB (TStore.mk x0 x1 x2 x3 x4 x5 x6 x7 x8 x9 x10 x11 x12) its
  case false =>
   exact rk178
  case true =>
  exact rk178
 case true =>
 cases h_allk:allB (TStore.mk x0 x1 x2 x3 x4 x5 x6 x7 x8 x9 x10 x11 x12) keys
 case false =>
  by_cases h_itk:its.length=keys.length+1
  case neg =>
   have RR:=hide (show objB (TStore.mk x0 x1 x2 x3 x4 x5 x6 x7 x8 x9 x10 x11 x12) (.mk 3 tag ser its keys)=false by rw[objB_3];(try simp only[TStore.made_mk,TStore.records_mk,vAt_0,vAt_1,vAt_2]);rw[h_allk];simp)
   have e_tag:(tag==0)=true:=by rw[beq_iff_eq];omega
   have n_tag:(tag != 0)=false:=by rw[bne_eq_false_iff_eq];omega
   exact rk82
  case pos =>
  cases h_alli:allB (TStore.mk x0 x1 x2 x3 x4 x5 x6 x7 x8 x9 x10 x11 x12) its
  case false =>
   have RR:=hide (show objB (TStore.mk x0 x1 x2 x3 x4 x5 x6 x7 x8 x9 x10 x11 x12) (.mk 3 tag ser its keys)=false by rw[objB_3];(try simp only[TStore.made_mk,TStore.records_mk,vAt_0,vAt_1,vAt_2]);rw[h_allk];simp)
   exact rk168
  case true =>
  have RR:=hide (show objB (TStore.mk x0 x1 x2 x3 x4 x5 x6 x7 x8 x9 x10 x11 x12) (.mk 3 tag ser its keys)=false by rw[objB_3];(try simp only[TStore.made_mk,TStore.records_mk,vAt_0,vAt_1,vAt_2]);rw[h_allk];simp)
  exact rk168
 case true =>
 by_cases h_itk:its.length=keys.length+1
 case neg =>
  have RR:=hide (show objB (TStore.mk x0 x1 x2 x3 x4 x5 x6 x7 x8 x9 x10 x11 x12) (.mk 3 tag ser its keys)=false by rw[objB_3];(try simp only[TStore.made_mk,TStore.records_mk,vAt_0,vAt_1,vAt_2]);simp[h_itk])
  have e_tag:(tag==0)=true:=by rw[beq_iff_eq];omega
  have n_tag:(tag != 0)=false:=by rw[bne_eq_false_iff_eq];omega
  exact rk82
 case pos =>
 cases h_alli:allB (TStore.mk x0 x1 x2 x3 x4 x5 x6 x7 x8 x9 x10 x11 x12) its
 case false =>
  have RR:=hide (show objB (TStore.mk x0 x1 x2 x3 x4 x5 x6 x7 x8 x9 x10 x11 x12) (.mk 3 tag ser its keys)=false by rw[objB_3];(try simp only[TStore.made_mk,TStore.records_mk,vAt_0,vAt_1,vAt_2]);rw[h_alli];simp)
  exact rk168
 case true =>
 have RR:=hide (show objB (TStore.mk x0 x1 x2 x3 x4 x5 x6 x7 x8 x9 x10 x11 x12) (.mk 3 tag ser its keys)=true by rw[objB_3];(try simp only[TStore.made_mk,TStore.records_mk,vAt_0,vAt_1,vAt_2]);(try simp only[TValue.v]);simp only[Bool.and_eq_true,decide_eq_true_eq];(repeat' apply And.intro) <;> first | assumption | trivial | exact decide_eq_true ⟨by omega,by omega⟩ | exact decide_eq_true (by omega) | rfl | omega)
 exact rk168
set_option maxHeartbeats 8000000 in
theorem implObj_3_d (tag ser:Int) (its keys:List TValue) (s:TStore) (h_tag:¬tag=0) (h_key40:¬keys.length≤40):ObjC 24 s (.mk 3 tag ser its keys):=by
 intro S S' q w vs hs hv
 have HS:=hide hs
 obtain⟨Ai,ci,Ak,ck,rfl,_,htag,hser,hRi,hRk⟩:=TObject.vals hv
 have HRi:=hide hRi
 have HRk:=hide hRk
 have hli:=hRi.1
 have hmi:=hRi.2.1
 have hlk:=hRk.1
 have hmk:=hRk.2.1
 simp only[List.length_map]at hli hlk
 unfold maxLen at hmi hmk
 clear hRi hRk hv
 obtain⟨x0,x1,x2,x3,x4,x5,x6,x7,x8,x9,x10,x11,x12⟩:=s
 have HSt:=hide hs
 obtain⟨A0,c0,A1,c1,A2,c2,A3,c3,A6,c6,A7,c7,A8,c8,hq,e0,e1,e2,e3,e4,e5,e6,e7,e8,e9,e10,e11,e12,hlc0,hcm0,hlc1,hcm1,hlc2,hcm2,hlc3,hcm3,hlc6,hcm6,hlc7,hcm7,hlc8,hcm8,g4,g5,g10,g11,g12,-,HR1,-,-,-,-,-⟩:=StoreAt.opn hs
 clear hs
 have hqn:¬q=w.heap.size:=by omega
 have hbw:Bel w w:=Bel.refl w
 by_cases hs1:ser<1
 case pos =>
  exact rk117
 case neg =>
 have ds1:decide (ser<1)=false:=by simp;omega
 by_cases hs2:x12<ser
 case pos =>
  exact rk116
 case neg =>
 have ds2:decide (x12<ser)=false:=by simp;omega
 by_cases h_itk:its.length=keys.length+1
 case neg =>
  have RR:=hide (show objB (TStore.mk x0 x1 x2 x3 x4 x5 x6 x7 x8 x9 x10 x11 x12) (.mk 3 tag ser its keys)=false by rw[objB_3];(try simp only[TStore.made_mk,TStore.records_mk,vAt_0,vAt_1,vAt_2]);simp[h_tag])
  have e_tag:(tag==0)=false:=by rw[beq_eq_false_iff_ne];omega
  have n_tag:(tag != 0)=true:=by rw[bne_iff_ne];omega
  exact rk144
 case pos =>
 cases h_alli:allB (TStore.mk x0 x1 x2 x3 x4 x5 x6 x7 x8 x9 x10 x11 x12) its
 case false =>
  have RR:=hide (show objB (TStore.mk x0 x1 x2 x3 x4 x5 x6 x7 x8 x9 x10 x11 x12) (.mk 3 tag ser its keys)=false by rw[objB_3];(try simp only[TStore.made_mk,TStore.records_mk,vAt_0,vAt_1,vAt_2]);simp[h_tag])
  have e_tag:(tag==0)=false:=by rw[beq_eq_false_iff_ne];omega
  have n_tag:(tag != 0)=true:=by rw[bne_iff_ne];omega
  exact rk83
 case true =>
 have RR:=hide (show objB (TStore.mk x0 x1 x2 x3 x4 x5 x6 x7 x8 x9 x10 x11 x12) (.mk 3 tag ser its keys)=false by rw[objB_3];(try simp only[TStore.made_mk,TStore.records_mk,vAt_0,vAt_1,vAt_2]);simp[h_tag])
 have e_tag:(tag==0)=false:=by rw[beq_eq_false_iff_ne];omega
 have n_tag:(tag != 0)=true:=by rw[bne_iff_ne];omega
 exact rk83
end Go.Proofs.YtoikhhnmbbbjjaaDoor
namespace Go.Proofs.YtoikhhnmbbbjjaaDoor
set_option linter.unusedVariables false
set_option linter.unusedSimpArgs false
set_option maxRecDepth 100000
open Go.RowKit
--%quiet
set_option maxHeartbeats 8000000 in
theorem implObj_3_b (tag ser:Int) (its keys:List TValue) (s:TStore) (h_tag:¬tag=0) (h_key40:keys.length≤40):ObjC 24 s (.mk 3 tag ser its keys):=by
 intro S S' q w vs hs hv
 have HS:=hide hs
 obtain⟨Ai,ci,Ak,ck,rfl,_,htag,hser,hRi,hRk⟩:=TObject.vals hv
 have HRi:=hide hRi
 have HRk:=hide hRk
 have hli:=hRi.1
 have hmi:=hRi.2.1
 have hlk:=hRk.1
 have hmk:=hRk.2.1
 simp only[List.length_map]at hli hlk
 unfold maxLen at hmi hmk
 clear hRi hRk hv
 obtain⟨x0,x1,x2,x3,x4,x5,x6,x7,x8,x9,x10,x11,x12⟩:=s
 have HSt:=hide hs
 obtain⟨A0,c0,A1,c1,A2,c2,A3,c3,A6,c6,A7,c7,A8,c8,hq,e0,e1,e2,e3,e4,e5,e6,e7,e8,e9,e10,e11,e12,hlc0,hcm0,hlc1,hcm1,hlc2,hcm2,hlc3,hcm3,hlc6,hcm6,hlc7,hcm7,hlc8,hcm8,g4,g5,g10,g11,g12,-,HR1,-,-,-,-,-⟩:=StoreAt.opn hs
 clear hs
 have hqn:¬q=w.heap.size:=by omega
 have hbw:Bel w w:=Bel.refl w
 by_cases hs1:ser<1
 case pos =>
  exact rk117
 case neg =>
 have ds1:decide (ser<1)=false:=by simp;omega
 by_cases hs2:x12<ser
 case pos =>
  exact rk116
 case neg =>
 have ds2:decide (x12<ser)=false:=by simp;omega
 cases h_dis:distB keys
 case false =>
  by_cases h_itk:its.length=keys.length+1
  case neg =>
   have RR:=hide (show objB (TStore.mk x0 x1 x2 x3 x4 x5 x6 x7 x8 x9 x10 x11 x12) (.mk 3 tag ser its keys)=false by rw[objB_3];(try simp only[TStore.made_mk,TStore.records_mk,vAt_0,vAt_1,vAt_2]);simp[h_tag])
   have e_tag:(tag==0)=false:=by rw[beq_eq_false_iff_ne];omega
   have n_tag:(tag != 0)=true:=by rw[bne_iff_ne];omega
   exact rk136
  case pos =>
  cases h_alli:allB (TStore.mk x0 x1 x2 x3 x4 x5 x6 x7 x8 x9 x10 x11 x12) its
  case false =>
   exact rk179
  case true =>
  exact rk179
 case true =>
 cases h_allk:allB (TStore.mk x0 x1 x2 x3 x4 x5 x6 x7 x8 x9 x10 x11 x12) keys
 case false =>
  by_cases h_itk:its.length=keys.length+1
  case neg =>
   have RR:=hide (show objB (TStore.mk x0 x1 x2 x3 x4 x5 x6 x7 x8 x9 x10 x11 x12) (.mk 3 tag ser its keys)=false by rw[objB_3];(try simp only[TStore.made_mk,TStore.records_mk,vAt_0,vAt_1,vAt_2]);simp[h_tag])
   have e_tag:(tag==0)=false:=by rw[beq_eq_false_iff_ne];omega
   have n_tag:(tag != 0)=true:=by rw[bne_iff_ne];omega
   exact rk82
  case pos =>
  cases h_alli:allB (TStore.mk x0 x1 x2 x3 x4 x5 x6 x7 x8 x9 x10 x11 x12) its
  case false =>
   exact rk111
  case true =>
  exact rk111
 case true =>
 by_cases h_itk:its.length=keys.length+1
 case neg =>
  have RR:=hide (show objB (TStore.mk x0 x1 x2 x3 x4 x5 x6 x7 x8 x9 x10 x11 x12) (.mk 3 tag ser its keys)=false by rw[objB_3];(try simp only[TStore.made_mk,TStore.records_mk,vAt_0,vAt_1,vAt_2]);simp[h_tag])
  have e_tag:(tag==0)=false:=by rw[beq_eq_false_iff_ne];omega
  have n_tag:(tag != 0)=true:=by rw[bne_iff_ne];omega
  exact rk82
 case pos =>
 cases h_alli:allB (TStore.mk x0 x1 x2 x3 x4 x5 x6 x7 x8 x9 x10 x11 x12) its
 case false =>
  exact rk111
 case true =>
 exact rk111
set_option maxHeartbeats 8000000 in
theorem implObj_3_c (tag ser:Int) (its keys:List TValue) (s:TStore) (h_tag:tag=0) (h_key40:¬keys.length≤40):ObjC 24 s (.mk 3 tag ser its keys):=by
 intro S S' q w vs hs hv
 have HS:=hide hs
 obtain⟨Ai,ci,Ak,ck,rfl,_,htag,hser,hRi,hRk⟩:=TObject.vals hv
 have HRi:=hide hRi
 have HRk:=hide hRk
 have hli:=hRi.1
 have hmi:=hRi.2.1
 have hlk:=hRk.1
 have hmk:=hRk.2.1
 simp only[List.length_map]at hli hlk
 unfold maxLen at hmi hmk
 clear hRi hRk hv
 obtain⟨x0,x1,x2,x3,x4,x5,x6,x7,x8,x9,x10,x11,x12⟩:=s
 have HSt:=hide hs
 obtain⟨A0,c0,A1,c1,A2,c2,A3,c3,A6,c6,A7,c7,A8,c8,hq,e0,e1,e2,e3,e4,e5,e6,e7,e8,e9,e10,e11,e12,hlc0,hcm0,hlc1,hcm1,hlc2,hcm2,hlc3,hcm3,hlc6,hcm6,hlc7,hcm7,hlc8,hcm8,g4,g5,g10,g11,g12,-,HR1,-,-,-,-,-⟩:=StoreAt.opn hs
 clear hs
 have hqn:¬q=w.heap.size:=by omega
 have hbw:Bel w w:=Bel.refl w
 by_cases hs1:ser<1
 case pos =>
  exact rk117
 case neg =>
 have ds1:decide (ser<1)=false:=by simp;omega
 by_cases hs2:x12<ser
 case pos =>
  exact rk116
 case neg =>
 have ds2:decide (x12<ser)=false:=by simp;omega
 by_cases h_itk:its.length=keys.length+1
 case neg =>
  have RR:=hide (show objB (TStore.mk x0 x1 x2 x3 x4 x5 x6 x7 x8 x9 x10 x11 x12) (.mk 3 tag ser its keys)=false by rw[objB_3];(try simp only[TStore.made_mk,TStore.records_mk,vAt_0,vAt_1,vAt_2]);simp[h_key40])
  have e_tag:(tag==0)=true:=by rw[beq_iff_eq];omega
  have n_tag:(tag != 0)=false:=by rw[bne_eq_false_iff_eq];omega
  exact rk144
 case pos =>
 cases h_alli:allB (TStore.mk x0 x1 x2 x3 x4 x5 x6 x7 x8 x9 x10 x11 x12) its
 case false =>
  have RR:=hide (show objB (TStore.mk x0 x1 x2 x3 x4 x5 x6 x7 x8 x9 x10 x11 x12) (.mk 3 tag ser its keys)=false by rw[objB_3];(try simp only[TStore.made_mk,TStore.records_mk,vAt_0,vAt_1,vAt_2]);simp[h_key40])
  have e_tag:(tag==0)=true:=by rw[beq_iff_eq];omega
  have n_tag:(tag != 0)=false:=by rw[bne_eq_false_iff_eq];omega
  exact rk83
 case true =>
 have RR:=hide (show objB (TStore.mk x0 x1 x2 x3 x4 x5 x6 x7 x8 x9 x10 x11 x12) (.mk 3 tag ser its keys)=false by rw[objB_3];(try simp only[TStore.made_mk,TStore.records_mk,vAt_0,vAt_1,vAt_2]);simp[h_key40])
 have e_tag:(tag==0)=true:=by rw[beq_iff_eq];omega
 have n_tag:(tag != 0)=false:=by rw[bne_eq_false_iff_eq];omega
 exact rk83
end Go.Proofs.YtoikhhnmbbbjjaaDoor
