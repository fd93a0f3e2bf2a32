/- Objects of kind 9, the program: one way. -/
import Derived.Test.YtoikhhnmbbbjjaaDoorPr
import Derived.Test.YtoikhhnmbbbjjaaDoorPS5bz
import Derived.Test.YtoikhhnmbbbjjaaDoorPB
namespace Go.Proofs.YtoikhhnmbbbjjaaDoor
set_option linter.unusedVariables false
set_option linter.unusedSimpArgs false
set_option maxRecDepth 100000
open Go.RowKit
set_option maxHeartbeats 80000000 in
theorem implObj_9_f (tag ser:Int) (u1 u2:Int) (u3:ByteArray) (u4 u5 v1 v2:Int) (v3:ByteArray) (v4 v5:Int) (keys:List TValue) (s:TStore) (hser:ser=0) (bt bk:Bool) (h_bt:(tag==0)=bt) (h_bk:((keys.length:Int)==0)=bk) (h_al:allB s [.mk 2 u1 u2 u3 u4 u5,.mk 1 v1 v2 v3 v4 v5]=true) (h_r1:1≤v1) (h_r2:¬v1≤(u3.size:Int)+1):ObjC 24 s (.mk 9 tag ser [.mk 2 u1 u2 u3 u4 u5,.mk 1 v1 v2 v3 v4 v5] keys):=by
 intro S S' q w vs hs hv
 have HS:=hide hs
 obtain⟨Ai,ci,Ak,ck,rfl,_,htag,hserI,hRi,hRk⟩:=TObject.vals hv
 have HRi:=hide hRi
 have HRk:=hide hRk
 have hli:=hRi.1
 have hmi:=hRi.2.1
 have hlk:=hRk.1
 have hmk:=hRk.2.1
 simp only[List.length_map,List.length_cons,List.length_nil,Nat.reduceAdd]at hli hlk
 unfold maxLen at hmi hmk
 clear hRi hRk hv
 obtain⟨x0,x1,x2,x3,x4,x5,x6,x7,x8,x9,x10,x11,x12⟩:=s
 have HSt:=hide hs
 obtain⟨A0,c0,A1,c1,A2,c2,A3,c3,A6,c6,A7,c7,A8,c8,hq,e0,e1,e2,e3,e4,e5,e6,e7,e8,e9,e10,e11,e12,hlc0,hcm0,hlc1,hcm1,hlc2,hcm2,hlc3,hcm3,hlc6,hcm6,hlc7,hcm7,hlc8,hcm8,g4,g5,g10,g11,g12,-,HR1,-,-,-,-,-⟩:=StoreAt.opn hs
 clear hs
 have hqn:¬q=w.heap.size:=by omega
 have hbw:Bel w w:=Bel.refl w
 have ds1:(ser != 0)=false:=by rw[bne_eq_false_iff_eq];omega
 (obtain⟨b1,o1,x1_0,x1_1,x1_2,x1_3,x1_4,x1_5,hA1,hS1,hl1,hx1,hv1,g1_0,g1_1,g1_2,g1_3,g1_4,g1_5,c1_0,c1_1,c1_2,c1_3,c1_4,c1_5⟩:=TValue.at HRi.out 0 (by simp);subst hA1;have HV1:=hide (Dat.HoldVals.bel hbw hv1);have hh1:=hbw.box b1 hl1;have hw1:=Nat.lt_of_lt_of_le hl1 (Bel.size hbw);replace c1_0:=(hh1 _).trans c1_0;replace c1_1:=(hh1 _).trans c1_1;replace c1_2:=(hh1 _).trans c1_2;replace c1_3:=(hh1 _).trans c1_3;replace c1_4:=(hh1 _).trans c1_4;replace c1_5:=(hh1 _).trans c1_5;have HX1:=hide hx1;clear hh1 hv1 hx1 hS1;simp only[Nat.zero_mul,Nat.one_mul,Nat.add_zero,Nat.reduceMul,Nat.add_assoc,Nat.reduceAdd]at c1_0 c1_1 c1_2 c1_3 c1_4 c1_5)
 (obtain⟨b2,o2,x2_0,x2_1,x2_2,x2_3,x2_4,x2_5,hA2,hS2,hl2,hx2,hv2,g2_0,g2_1,g2_2,g2_3,g2_4,g2_5,c2_0,c2_1,c2_2,c2_3,c2_4,c2_5⟩:=TValue.at HRi.out 1 (by simp);injection Option.some.inj hA2 with qb2 qo2 _;subst qb2 qo2;have HV2:=hide (Dat.HoldVals.bel hbw hv2);have hh2:=hbw.box b1 hl2;have hw2:=Nat.lt_of_lt_of_le hl2 (Bel.size hbw);replace c2_0:=(hh2 _).trans c2_0;replace c2_1:=(hh2 _).trans c2_1;replace c2_2:=(hh2 _).trans c2_2;replace c2_3:=(hh2 _).trans c2_3;replace c2_4:=(hh2 _).trans c2_4;replace c2_5:=(hh2 _).trans c2_5;have HX2:=hide hx2;clear hh2 hv2 hx2 hS2;simp only[Nat.zero_mul,Nat.one_mul,Nat.add_zero,Nat.reduceMul,Nat.add_assoc,Nat.reduceAdd]at c2_0 c2_1 c2_2 c2_3 c2_4 c2_5)
 obtain⟨rfl,rfl,rfl,rfl,rfl,rfl⟩:=TValue.mk.inj (show TValue.mk 2 u1 u2 u3 u4 u5=.mk x1_0 x1_1 x1_2 x1_3 x1_4 x1_5 from HX1.out)
 have GT1:=hide g1_3
 unfold maxLen at g1_3
 obtain⟨rfl,rfl,rfl,rfl,rfl,rfl⟩:=TValue.mk.inj (show TValue.mk 1 v1 v2 v3 v4 v5=.mk x2_0 x2_1 x2_2 x2_3 x2_4 x2_5 from HX2.out)
 have GT2:=hide g2_3
 unfold maxLen at g2_3
 have hne1:¬b1=w.heap.size:=by omega
 have hu3:u3.size≤120:=by
  have h_in1:=all2_in1 h_al;simp only[TValue.v]at h_in1
  exact rk139
 have hsm:IntKind.i64.wrap ((u3.size:Int)+1)=(u3.size:Int)+1:=by rw[IntKind.wrap_i64] <;> omega
 have RR:=hide (show objB (TStore.mk x0 x1 x2 x3 x4 x5 x6 x7 x8 x9 x10 x11 x12) (.mk 9 tag ser [.mk 2 u1 u2 u3 u4 u5,.mk 1 v1 v2 v3 v4 v5] keys)=false by rw[objB_9];refine Bool.eq_false_iff.2 fun hh=>?_;simp only[Bool.and_eq_true,decide_eq_true_eq]at hh;(try simp only[vAt_0,vAt_1,TValue.v]at hh);omega)
 clear hser
 have H_al:=hide h_al
 clear h_al
 have HALL:=hide (show ∀(wx:World),StoreAt wx S q (TStore.mk x0 x1 x2 x3 x4 x5 x6 x7 x8 x9 x10 x11 x12)→Row wx S' 6 (some ⟨b1,o1,none⟩) ci (([.mk 2 u1 u2 u3 u4 u5,.mk 1 v1 v2 v3 v4 v5]:List TValue).map TValue.D)→Calls Tryd.prog 23 #[.pointer (some ⟨q,0,none⟩),.slice (some ⟨b1,o1,none⟩) 2 ci] wx fun e w'=>e=.returned (.bool (allB (TStore.mk x0 x1 x2 x3 x4 x5 x6 x7 x8 x9 x10 x11 x12) [.mk 2 u1 u2 u3 u4 u5,.mk 1 v1 v2 v3 v4 v5]))∧Bel wx w' from fun wx h1 h2=>implAll_any (TStore.mk x0 x1 x2 x3 x4 x5 x6 x7 x8 x9 x10 x11 x12) [.mk 2 u1 u2 u3 u4 u5,.mk 1 v1 v2 v3 v4 v5] S S' q wx _ ci h1 h2)
 have l_r1:decide (1≤v1)=true:=decide_eq_true (by omega)
 have l_r2:decide (v1≤(u3.size:Int)+1)=false:=decide_eq_false (by omega)
 exact rk15
end Go.Proofs.YtoikhhnmbbbjjaaDoor
namespace Go.Proofs.YtoikhhnmbbbjjaaDoor
set_option linter.unusedVariables false
set_option linter.unusedSimpArgs false
set_option maxRecDepth 100000
open Go.RowKit
set_option maxHeartbeats 80000000 in
theorem implObj_9_g (tag ser:Int) (u1 u2:Int) (u3:ByteArray) (u4 u5 v1 v2:Int) (v3:ByteArray) (v4 v5:Int) (keys:List TValue) (s:TStore) (hser:ser=0) (bt bk:Bool) (h_bt:(tag==0)=bt) (h_bk:((keys.length:Int)==0)=bk) (h_al:allB s [.mk 2 u1 u2 u3 u4 u5,.mk 1 v1 v2 v3 v4 v5]=true) (h_r1:1≤v1) (h_r2:v1≤(u3.size:Int)+1):ObjC 24 s (.mk 9 tag ser [.mk 2 u1 u2 u3 u4 u5,.mk 1 v1 v2 v3 v4 v5] keys):=by
 intro S S' q w vs hs hv
 have HS:=hide hs
 obtain⟨Ai,ci,Ak,ck,rfl,_,htag,hserI,hRi,hRk⟩:=TObject.vals hv
 have HRi:=hide hRi
 have HRk:=hide hRk
 have hli:=hRi.1
 have hmi:=hRi.2.1
 have hlk:=hRk.1
 have hmk:=hRk.2.1
 simp only[List.length_map,List.length_cons,List.length_nil,Nat.reduceAdd]at hli hlk
 unfold maxLen at hmi hmk
 clear hRi hRk hv
 obtain⟨x0,x1,x2,x3,x4,x5,x6,x7,x8,x9,x10,x11,x12⟩:=s
 have HSt:=hide hs
 obtain⟨A0,c0,A1,c1,A2,c2,A3,c3,A6,c6,A7,c7,A8,c8,hq,e0,e1,e2,e3,e4,e5,e6,e7,e8,e9,e10,e11,e12,hlc0,hcm0,hlc1,hcm1,hlc2,hcm2,hlc3,hcm3,hlc6,hcm6,hlc7,hcm7,hlc8,hcm8,g4,g5,g10,g11,g12,-,HR1,-,-,-,-,-⟩:=StoreAt.opn hs
 clear hs
 have hqn:¬q=w.heap.size:=by omega
 have hbw:Bel w w:=Bel.refl w
 have ds1:(ser != 0)=false:=by rw[bne_eq_false_iff_eq];omega
 (obtain⟨b1,o1,x1_0,x1_1,x1_2,x1_3,x1_4,x1_5,hA1,hS1,hl1,hx1,hv1,g1_0,g1_1,g1_2,g1_3,g1_4,g1_5,c1_0,c1_1,c1_2,c1_3,c1_4,c1_5⟩:=TValue.at HRi.out 0 (by simp);subst hA1;have HV1:=hide (Dat.HoldVals.bel hbw hv1);have hh1:=hbw.box b1 hl1;have hw1:=Nat.lt_of_lt_of_le hl1 (Bel.size hbw);replace c1_0:=(hh1 _).trans c1_0;replace c1_1:=(hh1 _).trans c1_1;replace c1_2:=(hh1 _).trans c1_2;replace c1_3:=(hh1 _).trans c1_3;replace c1_4:=(hh1 _).trans c1_4;replace c1_5:=(hh1 _).trans c1_5;have HX1:=hide hx1;clear hh1 hv1 hx1 hS1;simp only[Nat.zero_mul,Nat.one_mul,Nat.add_zero,Nat.reduceMul,Nat.add_assoc,Nat.reduceAdd]at c1_0 c1_1 c1_2 c1_3 c1_4 c1_5)
 (obtain⟨b2,o2,x2_0,x2_1,x2_2,x2_3,x2_4,x2_5,hA2,hS2,hl2,hx2,hv2,g2_0,g2_1,g2_2,g2_3,g2_4,g2_5,c2_0,c2_1,c2_2,c2_3,c2_4,c2_5⟩:=TValue.at HRi.out 1 (by simp);injection Option.some.inj hA2 with qb2 qo2 _;subst qb2 qo2;have HV2:=hide (Dat.HoldVals.bel hbw hv2);have hh2:=hbw.box b1 hl2;have hw2:=Nat.lt_of_lt_of_le hl2 (Bel.size hbw);replace c2_0:=(hh2 _).trans c2_0;replace c2_1:=(hh2 _).trans c2_1;replace c2_2:=(hh2 _).trans c2_2;replace c2_3:=(hh2 _).trans c2_3;replace c2_4:=(hh2 _).trans c2_4;replace c2_5:=(hh2 _).trans c2_5;have HX2:=hide hx2;clear hh2 hv2 hx2 hS2;simp only[Nat.zero_mul,Nat.one_mul,Nat.add_zero,Nat.reduceMul,Nat.add_assoc,Nat.reduceAdd]at c2_0 c2_1 c2_2 c2_3 c2_4 c2_5)
 obtain⟨rfl,rfl,rfl,rfl,rfl,rfl⟩:=TValue.mk.inj (show TValue.mk 2 u1 u2 u3 u4 u5=.mk x1_0 x1_1 x1_2 x1_3 x1_4 x1_5 from HX1.out)
 have GT1:=hide g1_3
 unfold maxLen at g1_3
 obtain⟨rfl,rfl,rfl,rfl,rfl,rfl⟩:=TValue.mk.inj (show TValue.mk 1 v1 v2 v3 v4 v5=.mk x2_0 x2_1 x2_2 x2_3 x2_4 x2_5 from HX2.out)
 have GT2:=hide g2_3
 unfold maxLen at g2_3
 have hne1:¬b1=w.heap.size:=by omega
 have hu3:u3.size≤120:=by
  have h_in1:=all2_in1 h_al;simp only[TValue.v]at h_in1
  exact rk139
 have hsm:IntKind.i64.wrap ((u3.size:Int)+1)=(u3.size:Int)+1:=by rw[IntKind.wrap_i64] <;> omega
 have e1:decide (tag=0)=bt:=h_bt
 have e2:decide (keys.length=0)=bk:=by rw[←h_bk,Bool.eq_iff_iff,decide_eq_true_iff,beq_iff_eq];omega
 have q1:inB (TStore.mk x0 x1 x2 x3 x4 x5 x6 x7 x8 x9 x10 x11 x12) ⟨2,u1,u2,u3,u4,u5⟩=true:=all2_in1 h_al
 have q2:inB (TStore.mk x0 x1 x2 x3 x4 x5 x6 x7 x8 x9 x10 x11 x12) ⟨1,v1,v2,v3,v4,v5⟩=true:=all2_in2 h_al
 have RR:=hide (show objB (TStore.mk x0 x1 x2 x3 x4 x5 x6 x7 x8 x9 x10 x11 x12) (.mk 9 tag ser [.mk 2 u1 u2 u3 u4 u5,.mk 1 v1 v2 v3 v4 v5] keys)=(bt&&bk) by refine Bool.eq_iff_iff.2 ⟨fun hh=>?_,fun hh=>?_⟩ <;> first | (rw[objB_9]at hh;simp only[Bool.and_eq_true,decide_eq_true_eq]at hh;rw[←e1,←e2];simp only[Bool.and_eq_true,decide_eq_true_eq];exact⟨by omega,by omega⟩) | (rw[←e1,←e2]at hh;simp only[Bool.and_eq_true,decide_eq_true_eq]at hh;obtain⟨hh1,hh2⟩:=hh;rw[objB_9];simp only[Bool.and_eq_true,decide_eq_true_eq];(try simp only[vAt_0,vAt_1,TValue.v]);(repeat' apply And.intro) <;> first | assumption | trivial | omega))
 clear e1 e2 q1 q2
 clear hser
 have H_al:=hide h_al
 clear h_al
 have HALL:=hide (show ∀(wx:World),StoreAt wx S q (TStore.mk x0 x1 x2 x3 x4 x5 x6 x7 x8 x9 x10 x11 x12)→Row wx S' 6 (some ⟨b1,o1,none⟩) ci (([.mk 2 u1 u2 u3 u4 u5,.mk 1 v1 v2 v3 v4 v5]:List TValue).map TValue.D)→Calls Tryd.prog 23 #[.pointer (some ⟨q,0,none⟩),.slice (some ⟨b1,o1,none⟩) 2 ci] wx fun e w'=>e=.returned (.bool (allB (TStore.mk x0 x1 x2 x3 x4 x5 x6 x7 x8 x9 x10 x11 x12) [.mk 2 u1 u2 u3 u4 u5,.mk 1 v1 v2 v3 v4 v5]))∧Bel wx w' from fun wx h1 h2=>implAll_any (TStore.mk x0 x1 x2 x3 x4 x5 x6 x7 x8 x9 x10 x11 x12) [.mk 2 u1 u2 u3 u4 u5,.mk 1 v1 v2 v3 v4 v5] S S' q wx _ ci h1 h2)
 have l_r1:decide (1≤v1)=true:=decide_eq_true (by omega)
 have l_r2:decide (v1≤(u3.size:Int)+1)=true:=decide_eq_true (by omega)
 exact rk15
end Go.Proofs.YtoikhhnmbbbjjaaDoor
