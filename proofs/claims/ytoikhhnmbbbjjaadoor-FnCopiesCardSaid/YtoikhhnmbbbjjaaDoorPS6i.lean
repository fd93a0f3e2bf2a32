/- Objects: the reference. -/
import Derived.Test.YtoikhhnmbbbjjaaDoorPr
import Derived.Test.YtoikhhnmbbbjjaaDoorPS2z
namespace Go.Proofs.YtoikhhnmbbbjjaaDoor
set_option linter.unusedVariables false
set_option linter.unusedSimpArgs false
set_option maxRecDepth 100000
open Go.RowKit
--%quiet
set_option maxHeartbeats 8000000 in
theorem specObj_8 (tag ser:Int) (its keys:List TValue) (s:TStore):ObjC 40 s (.mk 8 tag ser its keys):=by
 intro S S' q w vs hs hv
 have HS:=hide hs
 obtain⟨Ai,ci,Ak,ck,rfl,_,htag,hser,hRi,hRk⟩:=TObject.vals hv
 have HRi:=hide hRi
 have HRk:=hide hRk
 have hli:=hRi.1
 have hmi:=hRi.2.1
 have hlk:=hRk.1
 have hmk:=hRk.2.1
 simp only[List.length_map]at hli hlk
 unfold maxLen at hmi hmk
 clear hRi hRk hv
 obtain⟨x0,x1,x2,x3,x4,x5,x6,x7,x8,x9,x10,x11,x12⟩:=s
 have HSt:=hide hs
 obtain⟨A0,c0,A1,c1,A2,c2,A3,c3,A6,c6,A7,c7,A8,c8,hq,e0,e1,e2,e3,e4,e5,e6,e7,e8,e9,e10,e11,e12,hlc0,hcm0,hlc1,hcm1,hlc2,hcm2,hlc3,hcm3,hlc6,hcm6,hlc7,hcm7,hlc8,hcm8,g4,g5,g10,g11,g12,-,HR1,-,-,-,-,-⟩:=StoreAt.opn hs
 clear hs
 have hqn:¬q=w.heap.size:=by omega
 have hbw:Bel w w:=Bel.refl w
 by_cases hs1:¬ser=0
 case pos =>
  have RR:=hide (show objB (TStore.mk x0 x1 x2 x3 x4 x5 x6 x7 x8 x9 x10 x11 x12) (.mk 8 tag ser its keys)=false by rw[objB_8];show (decide (ser=0)&&_)=false;rw[decide_eq_false hs1];rfl)
  have ds1:(ser != 0)=true:=by simp;omega
  exact rk6
 case neg =>
 have ds1:(ser != 0)=false:=by simp;omega
 by_cases hlen:its.length=2
 case neg =>
  have h_len:=hlen
  by_cases h_tag:tag=0
  case neg =>
   have RR:=hide (show objB (TStore.mk x0 x1 x2 x3 x4 x5 x6 x7 x8 x9 x10 x11 x12) (.mk 8 tag ser its keys)=false by rw[objB_8];(try simp only[TStore.made_mk,TStore.records_mk,vAt_0,vAt_1,vAt_2]);simp[h_tag])
   exact rk113
  case pos =>
  by_cases h_key0:keys.length=0
  case neg =>
   have RR:=hide (show objB (TStore.mk x0 x1 x2 x3 x4 x5 x6 x7 x8 x9 x10 x11 x12) (.mk 8 tag ser its keys)=false by rw[objB_8];(try simp only[TStore.made_mk,TStore.records_mk,vAt_0,vAt_1,vAt_2]);simp[h_key0])
   exact rk87
  case pos =>
  have RR:=hide (show objB (TStore.mk x0 x1 x2 x3 x4 x5 x6 x7 x8 x9 x10 x11 x12) (.mk 8 tag ser its keys)=false by rw[objB_8];(try simp only[TStore.made_mk,TStore.records_mk,vAt_0,vAt_1,vAt_2]);simp[h_len])
  exact rk158
 case pos =>
 obtain⟨a,b,rfl⟩:∃a b,its=[a,b]:=by
  match its,hlen with
  | [a,b],_=>exact⟨a,b,rfl⟩
 simp only[List.length_cons,List.length_nil,Nat.reduceAdd]at hli
 clear hlen
 (obtain⟨b1,o1,x1_0,x1_1,x1_2,x1_3,x1_4,x1_5,hA1,hS1,hl1,hx1,hv1,g1_0,g1_1,g1_2,g1_3,g1_4,g1_5,c1_0,c1_1,c1_2,c1_3,c1_4,c1_5⟩:=TValue.at HRi.out 0 (by simp);subst hA1;have HV1:=hide (Dat.HoldVals.bel hbw hv1);have hh1:=hbw.box b1 hl1;have hw1:=Nat.lt_of_lt_of_le hl1 (Bel.size hbw);replace c1_0:=(hh1 _).trans c1_0;replace c1_1:=(hh1 _).trans c1_1;replace c1_2:=(hh1 _).trans c1_2;replace c1_3:=(hh1 _).trans c1_3;replace c1_4:=(hh1 _).trans c1_4;replace c1_5:=(hh1 _).trans c1_5;have HX1:=hide hx1;clear hh1 hv1 hx1 hS1;simp only[Nat.zero_mul,Nat.one_mul,Nat.add_zero,Nat.reduceMul,Nat.add_assoc,Nat.reduceAdd]at c1_0 c1_1 c1_2 c1_3 c1_4 c1_5)
 (obtain⟨b2,o2,x2_0,x2_1,x2_2,x2_3,x2_4,x2_5,hA2,hS2,hl2,hx2,hv2,g2_0,g2_1,g2_2,g2_3,g2_4,g2_5,c2_0,c2_1,c2_2,c2_3,c2_4,c2_5⟩:=TValue.at HRi.out 1 (by simp);injection Option.some.inj hA2 with qb2 qo2 _;subst qb2 qo2;have HV2:=hide (Dat.HoldVals.bel hbw hv2);have hh2:=hbw.box b1 hl2;have hw2:=Nat.lt_of_lt_of_le hl2 (Bel.size hbw);replace c2_0:=(hh2 _).trans c2_0;replace c2_1:=(hh2 _).trans c2_1;replace c2_2:=(hh2 _).trans c2_2;replace c2_3:=(hh2 _).trans c2_3;replace c2_4:=(hh2 _).trans c2_4;replace c2_5:=(hh2 _).trans c2_5;have HX2:=hide hx2;clear hh2 hv2 hx2 hS2;simp only[Nat.zero_mul,Nat.one_mul,Nat.add_zero,Nat.reduceMul,Nat.add_assoc,Nat.reduceAdd]at c2_0 c2_1 c2_2 c2_3 c2_4 c2_5)
 have hne1:¬b1=w.heap.size:=by omega
 obtain rfl:a=.mk x1_0 x1_1 x1_2 x1_3 x1_4 x1_5:=HX1.out
 have GT1:=hide g1_3
 unfold maxLen at g1_3
 obtain rfl:b=.mk x2_0 x2_1 x2_2 x2_3 x2_4 x2_5:=HX2.out
 have GT2:=hide g2_3
 unfold maxLen at g2_3
 by_cases h_tag:tag=0
 case neg =>
  have RR:=hide (show objB (TStore.mk x0 x1 x2 x3 x4 x5 x6 x7 x8 x9 x10 x11 x12) (.mk 8 tag ser [.mk x1_0 x1_1 x1_2 x1_3 x1_4 x1_5,.mk x2_0 x2_1 x2_2 x2_3 x2_4 x2_5] keys)=false by rw[objB_8];(try simp only[TStore.made_mk,TStore.records_mk,vAt_0,vAt_1,vAt_2]);simp[h_tag])
  exact rk113
 case pos =>
 by_cases h_key0:keys.length=0
 case neg =>
  have RR:=hide (show objB (TStore.mk x0 x1 x2 x3 x4 x5 x6 x7 x8 x9 x10 x11 x12) (.mk 8 tag ser [.mk x1_0 x1_1 x1_2 x1_3 x1_4 x1_5,.mk x2_0 x2_1 x2_2 x2_3 x2_4 x2_5] keys)=false by rw[objB_8];(try simp only[TStore.made_mk,TStore.records_mk,vAt_0,vAt_1,vAt_2]);simp[h_key0])
  exact rk87
 case pos =>
 by_cases h_k1:x1_0=5
 case neg =>
  have RR:=hide (show objB (TStore.mk x0 x1 x2 x3 x4 x5 x6 x7 x8 x9 x10 x11 x12) (.mk 8 tag ser [.mk x1_0 x1_1 x1_2 x1_3 x1_4 x1_5,.mk x2_0 x2_1 x2_2 x2_3 x2_4 x2_5] keys)=false by rw[objB_8];(try simp only[TStore.made_mk,TStore.records_mk,vAt_0,vAt_1,vAt_2]);simp[TValue.v,h_k1])
  have e_tag:(tag==0)=true:=by rw[beq_iff_eq];omega
  have n_tag:(tag != 0)=false:=by rw[bne_eq_false_iff_eq];omega
  have e_key0:((keys.length:Int)==0)=true:=by rw[beq_iff_eq];omega
  have n_key0:((keys.length:Int) != 0)=false:=by rw[bne_eq_false_iff_eq];omega
  have e_k1:(x1_0==5)=false:=by rw[beq_eq_false_iff_ne];omega
  have n_k1:(x1_0 != 5)=true:=by rw[bne_iff_ne];omega
  clear h_tag h_key0 h_k1
  exact rk6
 case pos =>
 subst h_k1
 cases h_in1:inB (TStore.mk x0 x1 x2 x3 x4 x5 x6 x7 x8 x9 x10 x11 x12) ⟨5,x1_1,x1_2,x1_3,x1_4,x1_5⟩
 case false =>
  have RR:=hide (show objB (TStore.mk x0 x1 x2 x3 x4 x5 x6 x7 x8 x9 x10 x11 x12) (.mk 8 tag ser [.mk 5 x1_1 x1_2 x1_3 x1_4 x1_5,.mk x2_0 x2_1 x2_2 x2_3 x2_4 x2_5] keys)=false by rw[objB_8];(try simp only[TStore.made_mk,TStore.records_mk,vAt_0,vAt_1,vAt_2]);simp only[TValue.v];rw[h_in1];simp)
  have e_tag:(tag==0)=true:=by rw[beq_iff_eq];omega
  have n_tag:(tag != 0)=false:=by rw[bne_eq_false_iff_eq];omega
  have e_key0:((keys.length:Int)==0)=true:=by rw[beq_iff_eq];omega
  have n_key0:((keys.length:Int) != 0)=false:=by rw[bne_eq_false_iff_eq];omega
  have H_in1:=hide h_in1
  clear h_tag h_key0 h_in1
  go_enter Tryd.func40,Tryd.ntmps40
  have mkq:=True.intro
  repeat (any_goals ((first | clear mkq | go_quiet (fail));(try go_wp2_with (first | (go_at_call 19;(with_reducible refine (specIn_any (TStore.mk x0 x1 x2 x3 x4 x5 x6 x7 x8 x9 x10 x11 x12) ⟨5,x1_1,x1_2,x1_3,x1_4,x1_5⟩ S q _ (StoreAt.bel bl HS.out) ⟨g1_0,g1_1,g1_2,GT1.out,g1_4,g1_5⟩).mono ?_);rintro e wi1 ⟨rfl,hbi1⟩;rw[H_in1.out];(have hzi1:=hbi1.sz;obtain⟨hki1_0,hfi1_0,hli1_0,hni1_0⟩:=hbi1.lay (w.heap.size);obtain⟨hki1_1,hfi1_1,hli1_1,hni1_1⟩:=hbi1.lay (q);obtain⟨hki1_2,hfi1_2,hli1_2,hni1_2⟩:=hbi1.lay (b1)))))))
  all_goals
   go_returns
   exact⟨by rw[RR.out];first | done | rfl,bl⟩
 case true =>
 cases h_in2:dataB (TStore.mk x0 x1 x2 x3 x4 x5 x6 x7 x8 x9 x10 x11 x12) ⟨x2_0,x2_1,x2_2,x2_3,x2_4,x2_5⟩
 case false =>
  have RR:=hide (show objB (TStore.mk x0 x1 x2 x3 x4 x5 x6 x7 x8 x9 x10 x11 x12) (.mk 8 tag ser [.mk 5 x1_1 x1_2 x1_3 x1_4 x1_5,.mk x2_0 x2_1 x2_2 x2_3 x2_4 x2_5] keys)=false by rw[objB_8];(try simp only[TStore.made_mk,TStore.records_mk,vAt_0,vAt_1,vAt_2]);simp only[TValue.v];rw[h_in2];simp)
  exact rk27
 case true =>
 have RR:=hide (show objB (TStore.mk x0 x1 x2 x3 x4 x5 x6 x7 x8 x9 x10 x11 x12) (.mk 8 tag ser [.mk 5 x1_1 x1_2 x1_3 x1_4 x1_5,.mk x2_0 x2_1 x2_2 x2_3 x2_4 x2_5] keys)=true by rw[objB_8];(try simp only[TStore.made_mk,TStore.records_mk,vAt_0,vAt_1,vAt_2]);(try simp only[TValue.v]);simp only[Bool.and_eq_true,decide_eq_true_eq];(repeat' apply And.intro) <;> first | assumption | trivial | exact decide_eq_true ⟨by omega,by omega⟩ | exact decide_eq_true (by omega) | rfl | omega)
 exact rk27
set_option maxHeartbeats 40000000 in
theorem specObj_9e (tag ser:Int) (its keys:List TValue) (s:TStore) (h9:¬(ser=0∧tag=0∧keys.length=0∧its.length=2∧(vAt its 0).k=2∧(vAt its 1).k=1)):ObjC 40 s (.mk 9 tag ser its keys):=by
 intro S S' q w vs hs hv
 have HS:=hide hs
 obtain⟨Ai,ci,Ak,ck,rfl,_,htag,hser,hRi,hRk⟩:=TObject.vals hv
 have HRi:=hide hRi
 have HRk:=hide hRk
 have hli:=hRi.1
 have hmi:=hRi.2.1
 have hlk:=hRk.1
 have hmk:=hRk.2.1
 simp only[List.length_map]at hli hlk
 unfold maxLen at hmi hmk
 clear hRi hRk hv
 obtain⟨x0,x1,x2,x3,x4,x5,x6,x7,x8,x9,x10,x11,x12⟩:=s
 have HSt:=hide hs
 obtain⟨A0,c0,A1,c1,A2,c2,A3,c3,A6,c6,A7,c7,A8,c8,hq,e0,e1,e2,e3,e4,e5,e6,e7,e8,e9,e10,e11,e12,hlc0,hcm0,hlc1,hcm1,hlc2,hcm2,hlc3,hcm3,hlc6,hcm6,hlc7,hcm7,hlc8,hcm8,g4,g5,g10,g11,g12,-,HR1,-,-,-,-,-⟩:=StoreAt.opn hs
 clear hs
 have hqn:¬q=w.heap.size:=by omega
 have hbw:Bel w w:=Bel.refl w
 by_cases hs1:¬ser=0
 case pos =>
  have RR:=hide (show objB (TStore.mk x0 x1 x2 x3 x4 x5 x6 x7 x8 x9 x10 x11 x12) (.mk 9 tag ser its keys)=false by rw[objB_9];show (decide (ser=0)&&_)=false;rw[decide_eq_false hs1];rfl)
  have ds1:(ser != 0)=true:=by simp;omega
  exact rk6
 case neg =>
 have ds1:(ser != 0)=false:=by simp;omega
 by_cases hlen:its.length=2
 case neg =>
  have h_len:=hlen
  by_cases h_tag:tag=0
  case neg =>
   have RR:=hide (show objB (TStore.mk x0 x1 x2 x3 x4 x5 x6 x7 x8 x9 x10 x11 x12) (.mk 9 tag ser its keys)=false by rw[objB_9];(try simp only[TStore.made_mk,TStore.records_mk,vAt_0,vAt_1,vAt_2]);simp[h_tag])
   exact rk113
  case pos =>
  by_cases h_key0:keys.length=0
  case neg =>
   have RR:=hide (show objB (TStore.mk x0 x1 x2 x3 x4 x5 x6 x7 x8 x9 x10 x11 x12) (.mk 9 tag ser its keys)=false by rw[objB_9];(try simp only[TStore.made_mk,TStore.records_mk,vAt_0,vAt_1,vAt_2]);simp[h_key0])
   exact rk87
  case pos =>
  have RR:=hide (show objB (TStore.mk x0 x1 x2 x3 x4 x5 x6 x7 x8 x9 x10 x11 x12) (.mk 9 tag ser its keys)=false by rw[objB_9];(try simp only[TStore.made_mk,TStore.records_mk,vAt_0,vAt_1,vAt_2]);simp[h_len])
  exact rk158
 case pos =>
 obtain⟨a,b,rfl⟩:∃a b,its=[a,b]:=by
  match its,hlen with
  | [a,b],_=>exact⟨a,b,rfl⟩
 simp only[List.length_cons,List.length_nil,Nat.reduceAdd]at hli
 clear hlen
 (obtain⟨b1,o1,x1_0,x1_1,x1_2,x1_3,x1_4,x1_5,hA1,hS1,hl1,hx1,hv1,g1_0,g1_1,g1_2,g1_3,g1_4,g1_5,c1_0,c1_1,c1_2,c1_3,c1_4,c1_5⟩:=TValue.at HRi.out 0 (by simp);subst hA1;have HV1:=hide (Dat.HoldVals.bel hbw hv1);have hh1:=hbw.box b1 hl1;have hw1:=Nat.lt_of_lt_of_le hl1 (Bel.size hbw);replace c1_0:=(hh1 _).trans c1_0;replace c1_1:=(hh1 _).trans c1_1;replace c1_2:=(hh1 _).trans c1_2;replace c1_3:=(hh1 _).trans c1_3;replace c1_4:=(hh1 _).trans c1_4;replace c1_5:=(hh1 _).trans c1_5;have HX1:=hide hx1;clear hh1 hv1 hx1 hS1;simp only[Nat.zero_mul,Nat.one_mul,Nat.add_zero,Nat.reduceMul,Nat.add_assoc,Nat.reduceAdd]at c1_0 c1_1 c1_2 c1_3 c1_4 c1_5)
 (obtain⟨b2,o2,x2_0,x2_1,x2_2,x2_3,x2_4,x2_5,hA2,hS2,hl2,hx2,hv2,g2_0,g2_1,g2_2,g2_3,g2_4,g2_5,c2_0,c2_1,c2_2,c2_3,c2_4,c2_5⟩:=TValue.at HRi.out 1 (by simp);injection Option.some.inj hA2 with qb2 qo2 _;subst qb2 qo2;have HV2:=hide (Dat.HoldVals.bel hbw hv2);have hh2:=hbw.box b1 hl2;have hw2:=Nat.lt_of_lt_of_le hl2 (Bel.size hbw);replace c2_0:=(hh2 _).trans c2_0;replace c2_1:=(hh2 _).trans c2_1;replace c2_2:=(hh2 _).trans c2_2;replace c2_3:=(hh2 _).trans c2_3;replace c2_4:=(hh2 _).trans c2_4;replace c2_5:=(hh2 _).trans c2_5;have HX2:=hide hx2;clear hh2 hv2 hx2 hS2;simp only[Nat.zero_mul,Nat.one_mul,Nat.add_zero,Nat.reduceMul,Nat.add_assoc,Nat.reduceAdd]at c2_0 c2_1 c2_2 c2_3 c2_4 c2_5)
 have hne1:¬b1=w.heap.size:=by omega
 obtain rfl:a=.mk x1_0 x1_1 x1_2 x1_3 x1_4 x1_5:=HX1.out
 have GT1:=hide g1_3
 unfold maxLen at g1_3
 obtain rfl:b=.mk x2_0 x2_1 x2_2 x2_3 x2_4 x2_5:=HX2.out
 have GT2:=hide g2_3
 unfold maxLen at g2_3
 by_cases h_tag:tag=0
 case neg =>
  have RR:=hide (show objB (TStore.mk x0 x1 x2 x3 x4 x5 x6 x7 x8 x9 x10 x11 x12) (.mk 9 tag ser [.mk x1_0 x1_1 x1_2 x1_3 x1_4 x1_5,.mk x2_0 x2_1 x2_2 x2_3 x2_4 x2_5] keys)=false by rw[objB_9];(try simp only[TStore.made_mk,TStore.records_mk,vAt_0,vAt_1,vAt_2]);simp[h_tag])
  exact rk113
 case pos =>
 by_cases h_key0:keys.length=0
 case neg =>
  have RR:=hide (show objB (TStore.mk x0 x1 x2 x3 x4 x5 x6 x7 x8 x9 x10 x11 x12) (.mk 9 tag ser [.mk x1_0 x1_1 x1_2 x1_3 x1_4 x1_5,.mk x2_0 x2_1 x2_2 x2_3 x2_4 x2_5] keys)=false by rw[objB_9];(try simp only[TStore.made_mk,TStore.records_mk,vAt_0,vAt_1,vAt_2]);simp[h_key0])
  exact rk87
 case pos =>
 by_cases h_k1:x1_0=2
 case neg =>
  have RR:=hide (show objB (TStore.mk x0 x1 x2 x3 x4 x5 x6 x7 x8 x9 x10 x11 x12) (.mk 9 tag ser [.mk x1_0 x1_1 x1_2 x1_3 x1_4 x1_5,.mk x2_0 x2_1 x2_2 x2_3 x2_4 x2_5] keys)=false by rw[objB_9];(try simp only[TStore.made_mk,TStore.records_mk,vAt_0,vAt_1,vAt_2]);simp[TValue.v,h_k1])
  have e_tag:(tag==0)=true:=by rw[beq_iff_eq];omega
  have n_tag:(tag != 0)=false:=by rw[bne_eq_false_iff_eq];omega
  have e_key0:((keys.length:Int)==0)=true:=by rw[beq_iff_eq];omega
  have n_key0:((keys.length:Int) != 0)=false:=by rw[bne_eq_false_iff_eq];omega
  have e_k1:(x1_0==2)=false:=by rw[beq_eq_false_iff_ne];omega
  have n_k1:(x1_0 != 2)=true:=by rw[bne_iff_ne];omega
  clear h_tag h_key0 h_k1
  exact rk6
 case pos =>
 subst h_k1
 by_cases h_k2:x2_0=1
 case neg =>
  have RR:=hide (show objB (TStore.mk x0 x1 x2 x3 x4 x5 x6 x7 x8 x9 x10 x11 x12) (.mk 9 tag ser [.mk 2 x1_1 x1_2 x1_3 x1_4 x1_5,.mk x2_0 x2_1 x2_2 x2_3 x2_4 x2_5] keys)=false by rw[objB_9];(try simp only[TStore.made_mk,TStore.records_mk,vAt_0,vAt_1,vAt_2]);simp[TValue.v,h_k2])
  have e_tag:(tag==0)=true:=by rw[beq_iff_eq];omega
  have n_tag:(tag != 0)=false:=by rw[bne_eq_false_iff_eq];omega
  have e_key0:((keys.length:Int)==0)=true:=by rw[beq_iff_eq];omega
  have n_key0:((keys.length:Int) != 0)=false:=by rw[bne_eq_false_iff_eq];omega
  have e_k2:(x2_0==1)=false:=by rw[beq_eq_false_iff_ne];omega
  have n_k2:(x2_0 != 1)=true:=by rw[bne_iff_ne];omega
  clear h_tag h_key0 h_k2
  exact rk6
 case pos =>
 subst h_k2
 exact absurd ⟨by omega,h_tag,h_key0,rfl,rfl,rfl⟩ h9
end Go.Proofs.YtoikhhnmbbbjjaaDoor
