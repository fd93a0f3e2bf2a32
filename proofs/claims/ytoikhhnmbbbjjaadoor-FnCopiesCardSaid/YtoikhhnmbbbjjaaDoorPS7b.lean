/- Objects: the program. -/
import Derived.Test.YtoikhhnmbbbjjaaDoorPr
import Derived.Test.YtoikhhnmbbbjjaaDoorPS5bz
namespace Go.Proofs.YtoikhhnmbbbjjaaDoor
set_option linter.unusedVariables false
set_option linter.unusedSimpArgs false
set_option maxRecDepth 100000
open Go.RowKit
--%quiet
set_option maxHeartbeats 8000000 in
theorem implObj_4 (tag ser:Int) (its keys:List TValue) (s:TStore):ObjC 24 s (.mk 4 tag ser its keys):=by
 intro S S' q w vs hs hv
 have HS:=hide hs
 obtain⟨Ai,ci,Ak,ck,rfl,_,htag,hser,hRi,hRk⟩:=TObject.vals hv
 have HRi:=hide hRi
 have HRk:=hide hRk
 have hli:=hRi.1
 have hmi:=hRi.2.1
 have hlk:=hRk.1
 have hmk:=hRk.2.1
 simp only[List.length_map]at hli hlk
 unfold maxLen at hmi hmk
 clear hRi hRk hv
 obtain⟨x0,x1,x2,x3,x4,x5,x6,x7,x8,x9,x10,x11,x12⟩:=s
 have HSt:=hide hs
 obtain⟨A0,c0,A1,c1,A2,c2,A3,c3,A6,c6,A7,c7,A8,c8,hq,e0,e1,e2,e3,e4,e5,e6,e7,e8,e9,e10,e11,e12,hlc0,hcm0,hlc1,hcm1,hlc2,hcm2,hlc3,hcm3,hlc6,hcm6,hlc7,hcm7,hlc8,hcm8,g4,g5,g10,g11,g12,-,HR1,-,-,-,-,-⟩:=StoreAt.opn hs
 clear hs
 have hqn:¬q=w.heap.size:=by omega
 have hbw:Bel w w:=Bel.refl w
 by_cases hs1:ser<1
 case pos =>
  have RR:=hide (show objB (TStore.mk x0 x1 x2 x3 x4 x5 x6 x7 x8 x9 x10 x11 x12) (.mk 4 tag ser its keys)=false by rw[objB_4];show (decide (1≤ser∧ser≤x12)&&_)=false;rw[decide_eq_false (show ¬(1≤ser∧ser≤x12) by omega)];rfl)
  have ds1:decide (ser<1)=true:=by simp;omega
  exact rk3
 case neg =>
 have ds1:decide (ser<1)=false:=by simp;omega
 by_cases hs2:x12<ser
 case pos =>
  have RR:=hide (show objB (TStore.mk x0 x1 x2 x3 x4 x5 x6 x7 x8 x9 x10 x11 x12) (.mk 4 tag ser its keys)=false by rw[objB_4];show (decide (1≤ser∧ser≤x12)&&_)=false;rw[decide_eq_false (show ¬(1≤ser∧ser≤x12) by omega)];rfl)
  have ds2:decide (x12<ser)=true:=by simp;omega
  exact rk3
 case neg =>
 have ds2:decide (x12<ser)=false:=by simp;omega
 by_cases h_tag:tag=0
 case neg =>
  by_cases h_key40:keys.length≤40
  case neg =>
   by_cases h_it0:its.length=0
   case neg =>
    have RR:=hide (show objB (TStore.mk x0 x1 x2 x3 x4 x5 x6 x7 x8 x9 x10 x11 x12) (.mk 4 tag ser its keys)=false by rw[objB_4];(try simp only[TStore.made_mk,TStore.records_mk,vAt_0,vAt_1,vAt_2]);simp[h_tag])
    have e_tag:(tag==0)=false:=by rw[beq_eq_false_iff_ne];omega
    have n_tag:(tag != 0)=true:=by rw[bne_iff_ne];omega
    exact rk176
   case pos =>
   have RR:=hide (show objB (TStore.mk x0 x1 x2 x3 x4 x5 x6 x7 x8 x9 x10 x11 x12) (.mk 4 tag ser its keys)=false by rw[objB_4];(try simp only[TStore.made_mk,TStore.records_mk,vAt_0,vAt_1,vAt_2]);simp[h_tag])
   have e_tag:(tag==0)=false:=by rw[beq_eq_false_iff_ne];omega
   have n_tag:(tag != 0)=true:=by rw[bne_iff_ne];omega
   exact rk177
  case pos =>
  cases h_dis:distB keys
  case false =>
   by_cases h_it0:its.length=0
   case neg =>
    have RR:=hide (show objB (TStore.mk x0 x1 x2 x3 x4 x5 x6 x7 x8 x9 x10 x11 x12) (.mk 4 tag ser its keys)=false by rw[objB_4];(try simp only[TStore.made_mk,TStore.records_mk,vAt_0,vAt_1,vAt_2]);simp[h_tag])
    have e_tag:(tag==0)=false:=by rw[beq_eq_false_iff_ne];omega
    have n_tag:(tag != 0)=true:=by rw[bne_iff_ne];omega
    exact rk170
   case pos =>
   have RR:=hide (show objB (TStore.mk x0 x1 x2 x3 x4 x5 x6 x7 x8 x9 x10 x11 x12) (.mk 4 tag ser its keys)=false by rw[objB_4];(try simp only[TStore.made_mk,TStore.records_mk,vAt_0,vAt_1,vAt_2]);simp[h_tag])
   have e_tag:(tag==0)=false:=by rw[beq_eq_false_iff_ne];omega
   have n_tag:(tag != 0)=true:=by rw[bne_iff_ne];omega
   exact rk171
  case true =>
  cases h_allk:allB (TStore.mk x0 x1 x2 x3 x4 x5 x6 x7 x8 x9 x10 x11 x12) keys
  case false =>
   exact rk86
  case true =>
  exact rk86
 case pos =>
 by_cases h_key40:keys.length≤40
 case neg =>
  by_cases h_it0:its.length=0
  case neg =>
   have RR:=hide (show objB (TStore.mk x0 x1 x2 x3 x4 x5 x6 x7 x8 x9 x10 x11 x12) (.mk 4 tag ser its keys)=false by rw[objB_4];(try simp only[TStore.made_mk,TStore.records_mk,vAt_0,vAt_1,vAt_2]);simp[h_key40])
   have e_tag:(tag==0)=true:=by rw[beq_iff_eq];omega
   have n_tag:(tag != 0)=false:=by rw[bne_eq_false_iff_eq];omega
   exact rk176
  case pos =>
  have RR:=hide (show objB (TStore.mk x0 x1 x2 x3 x4 x5 x6 x7 x8 x9 x10 x11 x12) (.mk 4 tag ser its keys)=false by rw[objB_4];(try simp only[TStore.made_mk,TStore.records_mk,vAt_0,vAt_1,vAt_2]);simp[h_key40])
  have e_tag:(tag==0)=true:=by rw[beq_iff_eq];omega
  have n_tag:(tag != 0)=false:=by rw[bne_eq_false_iff_eq];omega
  exact rk177
 case pos =>
 cases h_dis:distB keys
 case false =>
  by_cases h_it0:its.length=0
  case neg =>
   have RR:=hide (show objB (TStore.mk x0 x1 x2 x3 x4 x5 x6 x7 x8 x9 x10 x11 x12) (.mk 4 tag ser its keys)=false by rw[objB_4];(try simp only[TStore.made_mk,TStore.records_mk,vAt_0,vAt_1,vAt_2]);rw[h_dis];simp)
   have e_tag:(tag==0)=true:=by rw[beq_iff_eq];omega
   have n_tag:(tag != 0)=false:=by rw[bne_eq_false_iff_eq];omega
   exact rk170
  case pos =>
  have RR:=hide (show objB (TStore.mk x0 x1 x2 x3 x4 x5 x6 x7 x8 x9 x10 x11 x12) (.mk 4 tag ser its keys)=false by rw[objB_4];(try simp only[TStore.made_mk,TStore.records_mk,vAt_0,vAt_1,vAt_2]);rw[h_dis];simp)
  have e_tag:(tag==0)=true:=by rw[beq_iff_eq];omega
  have n_tag:(tag != 0)=false:=by rw[bne_eq_false_iff_eq];omega
  exact rk171
 case true =>
 cases h_allk:allB (TStore.mk x0 x1 x2 x3 x4 x5 x6 x7 x8 x9 x10 x11 x12) keys
 case false =>
  by_cases h_it0:its.length=0
  case neg =>
   have RR:=hide (show objB (TStore.mk x0 x1 x2 x3 x4 x5 x6 x7 x8 x9 x10 x11 x12) (.mk 4 tag ser its keys)=false by rw[objB_4];(try simp only[TStore.made_mk,TStore.records_mk,vAt_0,vAt_1,vAt_2]);rw[h_allk];simp)
   have e_tag:(tag==0)=true:=by rw[beq_iff_eq];omega
   have n_tag:(tag != 0)=false:=by rw[bne_eq_false_iff_eq];omega
   exact rk108
  case pos =>
  have RR:=hide (show objB (TStore.mk x0 x1 x2 x3 x4 x5 x6 x7 x8 x9 x10 x11 x12) (.mk 4 tag ser its keys)=false by rw[objB_4];(try simp only[TStore.made_mk,TStore.records_mk,vAt_0,vAt_1,vAt_2]);rw[h_allk];simp)
  have e_tag:(tag==0)=true:=by rw[beq_iff_eq];omega
  have n_tag:(tag != 0)=false:=by rw[bne_eq_false_iff_eq];omega
  exact rk109
 case true =>
 by_cases h_it0:its.length=0
 case neg =>
  have RR:=hide (show objB (TStore.mk x0 x1 x2 x3 x4 x5 x6 x7 x8 x9 x10 x11 x12) (.mk 4 tag ser its keys)=false by rw[objB_4];(try simp only[TStore.made_mk,TStore.records_mk,vAt_0,vAt_1,vAt_2]);simp[h_it0])
  have e_tag:(tag==0)=true:=by rw[beq_iff_eq];omega
  have n_tag:(tag != 0)=false:=by rw[bne_eq_false_iff_eq];omega
  exact rk108
 case pos =>
 have RR:=hide (show objB (TStore.mk x0 x1 x2 x3 x4 x5 x6 x7 x8 x9 x10 x11 x12) (.mk 4 tag ser its keys)=true by rw[objB_4];(try simp only[TStore.made_mk,TStore.records_mk,vAt_0,vAt_1,vAt_2]);(try simp only[TValue.v]);simp only[Bool.and_eq_true,decide_eq_true_eq];(repeat' apply And.intro) <;> first | assumption | trivial | exact decide_eq_true ⟨by omega,by omega⟩ | exact decide_eq_true (by omega) | rfl | omega)
 have e_tag:(tag==0)=true:=by rw[beq_iff_eq];omega
 have n_tag:(tag != 0)=false:=by rw[bne_eq_false_iff_eq];omega
 exact rk109
set_option maxHeartbeats 8000000 in
theorem implObj_5 (tag ser:Int) (its keys:List TValue) (s:TStore):ObjC 24 s (.mk 5 tag ser its keys):=by
 intro S S' q w vs hs hv
 have HS:=hide hs
 obtain⟨Ai,ci,Ak,ck,rfl,_,htag,hser,hRi,hRk⟩:=TObject.vals hv
 have HRi:=hide hRi
 have HRk:=hide hRk
 have hli:=hRi.1
 have hmi:=hRi.2.1
 have hlk:=hRk.1
 have hmk:=hRk.2.1
 simp only[List.length_map]at hli hlk
 unfold maxLen at hmi hmk
 clear hRi hRk hv
 obtain⟨x0,x1,x2,x3,x4,x5,x6,x7,x8,x9,x10,x11,x12⟩:=s
 have HSt:=hide hs
 obtain⟨A0,c0,A1,c1,A2,c2,A3,c3,A6,c6,A7,c7,A8,c8,hq,e0,e1,e2,e3,e4,e5,e6,e7,e8,e9,e10,e11,e12,hlc0,hcm0,hlc1,hcm1,hlc2,hcm2,hlc3,hcm3,hlc6,hcm6,hlc7,hcm7,hlc8,hcm8,g4,g5,g10,g11,g12,-,HR1,-,-,-,-,-⟩:=StoreAt.opn hs
 clear hs
 have hqn:¬q=w.heap.size:=by omega
 have hbw:Bel w w:=Bel.refl w
 by_cases hs1:ser<1
 case pos =>
  have RR:=hide (show objB (TStore.mk x0 x1 x2 x3 x4 x5 x6 x7 x8 x9 x10 x11 x12) (.mk 5 tag ser its keys)=false by rw[objB_5];show (decide (1≤ser∧ser≤x12)&&_)=false;rw[decide_eq_false (show ¬(1≤ser∧ser≤x12) by omega)];rfl)
  have ds1:decide (ser<1)=true:=by simp;omega
  exact rk3
 case neg =>
 have ds1:decide (ser<1)=false:=by simp;omega
 by_cases hs2:x12<ser
 case pos =>
  have RR:=hide (show objB (TStore.mk x0 x1 x2 x3 x4 x5 x6 x7 x8 x9 x10 x11 x12) (.mk 5 tag ser its keys)=false by rw[objB_5];show (decide (1≤ser∧ser≤x12)&&_)=false;rw[decide_eq_false (show ¬(1≤ser∧ser≤x12) by omega)];rfl)
  have ds2:decide (x12<ser)=true:=by simp;omega
  exact rk3
 case neg =>
 have ds2:decide (x12<ser)=false:=by simp;omega
 by_cases h_t0:0≤tag
 case neg =>
  by_cases h_key0:keys.length=0
  case neg =>
   have RR:=hide (show objB (TStore.mk x0 x1 x2 x3 x4 x5 x6 x7 x8 x9 x10 x11 x12) (.mk 5 tag ser its keys)=false by rw[objB_5];(try simp only[TStore.made_mk,TStore.records_mk,vAt_0,vAt_1,vAt_2]);simp[h_t0])
   have l_t0:decide (0≤tag)=false:=decide_eq_false (by omega)
   have e_key0:((keys.length:Int)==0)=false:=by rw[beq_eq_false_iff_ne];omega
   have n_key0:((keys.length:Int) != 0)=true:=by rw[bne_iff_ne];omega
   clear h_t0 h_key0
   exact rk3
  case pos =>
  have RR:=hide (show objB (TStore.mk x0 x1 x2 x3 x4 x5 x6 x7 x8 x9 x10 x11 x12) (.mk 5 tag ser its keys)=false by rw[objB_5];(try simp only[TStore.made_mk,TStore.records_mk,vAt_0,vAt_1,vAt_2]);simp[h_t0])
  have l_t0:decide (0≤tag)=false:=decide_eq_false (by omega)
  have e_key0:((keys.length:Int)==0)=true:=by rw[beq_iff_eq];omega
  have n_key0:((keys.length:Int) != 0)=false:=by rw[bne_eq_false_iff_eq];omega
  clear h_t0 h_key0
  exact rk3
 case pos =>
 by_cases h_t1:tag<(x1.length:Int)
 case neg =>
  by_cases h_key0:keys.length=0
  case neg =>
   have RR:=hide (show objB (TStore.mk x0 x1 x2 x3 x4 x5 x6 x7 x8 x9 x10 x11 x12) (.mk 5 tag ser its keys)=false by rw[objB_5];(try simp only[TStore.made_mk,TStore.records_mk,vAt_0,vAt_1,vAt_2]);simp[h_t1])
   have l_t0:decide (0≤tag)=true:=decide_eq_true (by omega)
   have l_t1:decide (tag<(x1.length:Int))=false:=decide_eq_false (by omega)
   have e_key0:((keys.length:Int)==0)=false:=by rw[beq_eq_false_iff_ne];omega
   have n_key0:((keys.length:Int) != 0)=true:=by rw[bne_iff_ne];omega
   clear h_t0 h_t1 h_key0
   exact rk3
  case pos =>
  have RR:=hide (show objB (TStore.mk x0 x1 x2 x3 x4 x5 x6 x7 x8 x9 x10 x11 x12) (.mk 5 tag ser its keys)=false by rw[objB_5];(try simp only[TStore.made_mk,TStore.records_mk,vAt_0,vAt_1,vAt_2]);simp[h_t1])
  have l_t0:decide (0≤tag)=true:=decide_eq_true (by omega)
  have l_t1:decide (tag<(x1.length:Int))=false:=decide_eq_false (by omega)
  have e_key0:((keys.length:Int)==0)=true:=by rw[beq_iff_eq];omega
  have n_key0:((keys.length:Int) != 0)=false:=by rw[bne_eq_false_iff_eq];omega
  clear h_t0 h_t1 h_key0
  exact rk3
 case pos =>
 obtain⟨m,hm⟩:=Int.eq_ofNat_of_zero_le h_t0
 have hlt:m<x1.length:=by omega
 (obtain⟨b4,o4,x4_0,x4_1,x4_2,A4_1,C4_1,hA4,hS4,hl4,hx4,hv4,g4_0,g4_1,g4_2,c4_0,c4_1,c4_2⟩:=TRecordType.at HR1.out m hlt;subst hA4;have HV4:=hide (Dat.HoldVals.bel hbw hv4);have hh4:=hbw.box b4 hl4;have hw4:=Nat.lt_of_lt_of_le hl4 (Bel.size hbw);replace c4_0:=(hh4 _).trans c4_0;replace c4_1:=(hh4 _).trans c4_1;replace c4_2:=(hh4 _).trans c4_2;have HX4:=hide hx4;have GR4_1:=hide g4_1;clear hh4 hv4 hx4 hS4 g4_1)
 have hne4:¬b4=w.heap.size:=by omega
 have hx:(x1.getD tag.toNat (.mk ByteArray.empty [] 0)).fields=x4_1:=by
  exact rk209
 have hf4:=GR4_1.out.1
 have hf4m:=GR4_1.out.2.1
 simp only[List.length_map]at hf4
 unfold maxLen at hf4m
 by_cases h_fl:its.length=x4_1.length
 case neg =>
  by_cases h_key0:keys.length=0
  case neg =>
   have RR:=hide (show objB (TStore.mk x0 x1 x2 x3 x4 x5 x6 x7 x8 x9 x10 x11 x12) (.mk 5 tag ser its keys)=false by rw[objB_5' (TStore.mk x0 x1 x2 x3 x4 x5 x6 x7 x8 x9 x10 x11 x12) _ _ _ _ x4_1 hx];(try simp only[TStore.made_mk,TStore.records_mk]);simp[h_fl])
   have l_t0:decide (0≤tag)=true:=decide_eq_true (by omega)
   have l_t1:decide (tag<(x1.length:Int))=true:=decide_eq_true (by omega)
   have e_fl:((its.length:Int)==(x4_1.length:Int))=false:=by rw[beq_eq_false_iff_ne];omega
   clear hx
   subst hm
   have e_key0:((keys.length:Int)==0)=false:=by rw[beq_eq_false_iff_ne];omega
   have n_key0:((keys.length:Int) != 0)=true:=by rw[bne_iff_ne];omega
   clear h_t0 h_t1 h_fl h_key0
   exact rk3
  case pos =>
  have RR:=hide (show objB (TStore.mk x0 x1 x2 x3 x4 x5 x6 x7 x8 x9 x10 x11 x12) (.mk 5 tag ser its keys)=false by rw[objB_5' (TStore.mk x0 x1 x2 x3 x4 x5 x6 x7 x8 x9 x10 x11 x12) _ _ _ _ x4_1 hx];(try simp only[TStore.made_mk,TStore.records_mk]);simp[h_fl])
  have l_t0:decide (0≤tag)=true:=decide_eq_true (by omega)
  have l_t1:decide (tag<(x1.length:Int))=true:=decide_eq_true (by omega)
  have e_fl:((its.length:Int)==(x4_1.length:Int))=false:=by rw[beq_eq_false_iff_ne];omega
  clear hx
  subst hm
  have e_key0:((keys.length:Int)==0)=true:=by rw[beq_iff_eq];omega
  have n_key0:((keys.length:Int) != 0)=false:=by rw[bne_eq_false_iff_eq];omega
  clear h_t0 h_t1 h_fl h_key0
  exact rk3
 case pos =>
 cases h_alli:allB (TStore.mk x0 x1 x2 x3 x4 x5 x6 x7 x8 x9 x10 x11 x12) its
 case false =>
  by_cases h_key0:keys.length=0
  case neg =>
   have RR:=hide (show objB (TStore.mk x0 x1 x2 x3 x4 x5 x6 x7 x8 x9 x10 x11 x12) (.mk 5 tag ser its keys)=false by rw[objB_5' (TStore.mk x0 x1 x2 x3 x4 x5 x6 x7 x8 x9 x10 x11 x12) _ _ _ _ x4_1 hx];(try simp only[TStore.made_mk,TStore.records_mk]);rw[h_alli];simp)
   exact rk166
  case pos =>
  have RR:=hide (show objB (TStore.mk x0 x1 x2 x3 x4 x5 x6 x7 x8 x9 x10 x11 x12) (.mk 5 tag ser its keys)=false by rw[objB_5' (TStore.mk x0 x1 x2 x3 x4 x5 x6 x7 x8 x9 x10 x11 x12) _ _ _ _ x4_1 hx];(try simp only[TStore.made_mk,TStore.records_mk]);rw[h_alli];simp)
  exact rk167
 case true =>
 by_cases h_key0:keys.length=0
 case neg =>
  have RR:=hide (show objB (TStore.mk x0 x1 x2 x3 x4 x5 x6 x7 x8 x9 x10 x11 x12) (.mk 5 tag ser its keys)=false by rw[objB_5' (TStore.mk x0 x1 x2 x3 x4 x5 x6 x7 x8 x9 x10 x11 x12) _ _ _ _ x4_1 hx];(try simp only[TStore.made_mk,TStore.records_mk]);simp[h_key0])
  exact rk166
 case pos =>
 have RR:=hide (show objB (TStore.mk x0 x1 x2 x3 x4 x5 x6 x7 x8 x9 x10 x11 x12) (.mk 5 tag ser its keys)=true by rw[objB_5' (TStore.mk x0 x1 x2 x3 x4 x5 x6 x7 x8 x9 x10 x11 x12) _ _ _ _ x4_1 hx];(try simp only[TStore.made_mk,TStore.records_mk,vAt_0,vAt_1,vAt_2]);(try simp only[TValue.v]);simp only[Bool.and_eq_true,decide_eq_true_eq];(repeat' apply And.intro) <;> first | assumption | trivial | exact decide_eq_true ⟨by omega,by omega⟩ | exact decide_eq_true (by omega) | rfl | omega)
 exact rk167
set_option maxHeartbeats 8000000 in
theorem implObj_7 (tag ser:Int) (its keys:List TValue) (s:TStore):ObjC 24 s (.mk 7 tag ser its keys):=by
 intro S S' q w vs hs hv
 have HS:=hide hs
 obtain⟨Ai,ci,Ak,ck,rfl,_,htag,hser,hRi,hRk⟩:=TObject.vals hv
 have HRi:=hide hRi
 have HRk:=hide hRk
 have hli:=hRi.1
 have hmi:=hRi.2.1
 have hlk:=hRk.1
 have hmk:=hRk.2.1
 simp only[List.length_map]at hli hlk
 unfold maxLen at hmi hmk
 clear hRi hRk hv
 obtain⟨x0,x1,x2,x3,x4,x5,x6,x7,x8,x9,x10,x11,x12⟩:=s
 have HSt:=hide hs
 obtain⟨A0,c0,A1,c1,A2,c2,A3,c3,A6,c6,A7,c7,A8,c8,hq,e0,e1,e2,e3,e4,e5,e6,e7,e8,e9,e10,e11,e12,hlc0,hcm0,hlc1,hcm1,hlc2,hcm2,hlc3,hcm3,hlc6,hcm6,hlc7,hcm7,hlc8,hcm8,g4,g5,g10,g11,g12,-,HR1,-,-,-,-,-⟩:=StoreAt.opn hs
 clear hs
 have hqn:¬q=w.heap.size:=by omega
 have hbw:Bel w w:=Bel.refl w
 by_cases hs1:ser<1
 case pos =>
  have RR:=hide (show objB (TStore.mk x0 x1 x2 x3 x4 x5 x6 x7 x8 x9 x10 x11 x12) (.mk 7 tag ser its keys)=false by rw[objB_7];show (decide (1≤ser∧ser≤x12)&&_)=false;rw[decide_eq_false (show ¬(1≤ser∧ser≤x12) by omega)];rfl)
  have ds1:decide (ser<1)=true:=by simp;omega
  exact rk3
 case neg =>
 have ds1:decide (ser<1)=false:=by simp;omega
 by_cases hs2:x12<ser
 case pos =>
  have RR:=hide (show objB (TStore.mk x0 x1 x2 x3 x4 x5 x6 x7 x8 x9 x10 x11 x12) (.mk 7 tag ser its keys)=false by rw[objB_7];show (decide (1≤ser∧ser≤x12)&&_)=false;rw[decide_eq_false (show ¬(1≤ser∧ser≤x12) by omega)];rfl)
  have ds2:decide (x12<ser)=true:=by simp;omega
  exact rk3
 case neg =>
 have ds2:decide (x12<ser)=false:=by simp;omega
 by_cases h_key0:keys.length=0
 case neg =>
  cases h_pat:patB (TStore.mk x0 x1 x2 x3 x4 x5 x6 x7 x8 x9 x10 x11 x12) tag its
  case false =>
   exact rk172
  case true =>
  exact rk172
 case pos =>
 cases h_pat:patB (TStore.mk x0 x1 x2 x3 x4 x5 x6 x7 x8 x9 x10 x11 x12) tag its
 case false =>
  have RR:=hide (show objB (TStore.mk x0 x1 x2 x3 x4 x5 x6 x7 x8 x9 x10 x11 x12) (.mk 7 tag ser its keys)=false by rw[objB_7];(try simp only[TStore.made_mk,TStore.records_mk,vAt_0,vAt_1,vAt_2]);rw[h_pat];simp)
  exact rk202
 case true =>
 have RR:=hide (show objB (TStore.mk x0 x1 x2 x3 x4 x5 x6 x7 x8 x9 x10 x11 x12) (.mk 7 tag ser its keys)=true by rw[objB_7];(try simp only[TStore.made_mk,TStore.records_mk,vAt_0,vAt_1,vAt_2]);(try simp only[TValue.v]);simp only[Bool.and_eq_true,decide_eq_true_eq];(repeat' apply And.intro) <;> first | assumption | trivial | exact decide_eq_true ⟨by omega,by omega⟩ | exact decide_eq_true (by omega) | rfl | omega)
 exact rk202
set_option maxHeartbeats 8000000 in
theorem implObj_out (kd:Int) (hkd:kd<1∨9<kd) (tag ser:Int) (its keys:List TValue) (s:TStore):ObjC 24 s (.mk kd tag ser its keys):=by
 intro S S' q w vs hs hv
 have HS:=hide hs
 obtain⟨Ai,ci,Ak,ck,rfl,_,htag,hser,hRi,hRk⟩:=TObject.vals hv
 have HRi:=hide hRi
 have HRk:=hide hRk
 have hli:=hRi.1
 have hmi:=hRi.2.1
 have hlk:=hRk.1
 have hmk:=hRk.2.1
 simp only[List.length_map]at hli hlk
 unfold maxLen at hmi hmk
 clear hRi hRk hv
 obtain⟨x0,x1,x2,x3,x4,x5,x6,x7,x8,x9,x10,x11,x12⟩:=s
 have HSt:=hide hs
 obtain⟨A0,c0,A1,c1,A2,c2,A3,c3,A6,c6,A7,c7,A8,c8,hq,e0,e1,e2,e3,e4,e5,e6,e7,e8,e9,e10,e11,e12,hlc0,hcm0,hlc1,hcm1,hlc2,hcm2,hlc3,hcm3,hlc6,hcm6,hlc7,hcm7,hlc8,hcm8,g4,g5,g10,g11,g12,-,HR1,-,-,-,-,-⟩:=StoreAt.opn hs
 clear hs
 have hqn:¬q=w.heap.size:=by omega
 have hbw:Bel w w:=Bel.refl w
 have RR:=hide (objB_out (TStore.mk x0 x1 x2 x3 x4 x5 x6 x7 x8 x9 x10 x11 x12) kd tag ser its keys hkd)
 have k_1:(kd==1)=false:=by simp;omega
 have k_2:(kd==2)=false:=by simp;omega
 have k_3:(kd==3)=false:=by simp;omega
 have k_4:(kd==4)=false:=by simp;omega
 have k_5:(kd==5)=false:=by simp;omega
 have k_6:(kd==6)=false:=by simp;omega
 have k_7:(kd==7)=false:=by simp;omega
 have k_8:(kd==8)=false:=by simp;omega
 have k_9:(kd==9)=false:=by simp;omega
 have m_3:(kd != 3)=true:=by simp;omega
 have m_4:(kd != 4)=true:=by simp;omega
 have m_5:(kd != 5)=true:=by simp;omega
 have m_6:(kd != 6)=true:=by simp;omega
 have m_7:(kd != 7)=true:=by simp;omega
 have hlo:(decide (2≤kd)&&decide (kd≤7))=false:=by simp;omega
 rcases hkd with hkd | hkd
 ·
  have d_2:decide (2≤kd)=false:=by simp;omega
  exact rk94
 ·
  have d_2:decide (2≤kd)=true:=by simp;omega
  have d_7:decide (kd≤7)=false:=by simp;omega
  exact rk94
end Go.Proofs.YtoikhhnmbbbjjaaDoor
