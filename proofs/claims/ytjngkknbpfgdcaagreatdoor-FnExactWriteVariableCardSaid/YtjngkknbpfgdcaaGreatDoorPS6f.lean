import Derived.Test.YtjngkknbpfgdcaaGreatDoorPr
import Derived.Test.YtjngkknbpfgdcaaGreatDoorPS5
import Derived.Test.YtjngkknbpfgdcaaGreatDoorPB
set_option linter.unusedVariables false
set_option linter.unusedSimpArgs false
set_option maxRecDepth 100000
set_option maxHeartbeats 8000000
namespace Go.Proofs.YtjngkknbpfgdcaaGreatDoor
open Go.RowKit
theorem Fk (tag cR:Int) (u1 u2:Int) (u3:ByteArray) (u4 u5 v1 v2:Int) (v3:ByteArray) (v4 v5:Int) (keys:List cw) (s:cv) (jt:cR=0) (dH:tag=0) (dw:keys.length=0) (fT:inB s ⟨2,u1,u2,u3,u4,u5⟩=true) (iA:inB s ⟨1,v1,v2,v3,v4,v5⟩=true) (Fl:¬(1<=v1/\v1<=(u3.size:Int)+1)):ll 105 s (.mk 9 tag cR [.mk 2 u1 u2 u3 u4 u5,.mk 1 v1 v2 v3 v4 v5] keys):=by
 intro S S' q w vs hs hv
 have HS:=hide hs
 obtain⟨Ai,ci,Ak,ck,rfl,_,htag,AV,hRi,hRk⟩:=cz.vals hv
 have lk:=hide hRi
 have HRk:=hide hRk
 have lM:=hRi.1
 have mA:=hRi.2.1
 have hlk:=hRk.1
 have hmk:=hRk.2.1
 simp only[aj,az,aA,Nat.reduceAdd]at lM hlk
 unfold maxLen at mA hmk
 clear hRi hRk hv
 obtain⟨x0,x1,x2,x3,x4,x5,x6,x7,x8,x9,x10,x11,x12⟩:=s
 have jF:=hide hs
 obtain⟨A0,c0,A1,c1,A2,c2,A3,c3,A6,c6,A7,c7,A8,c8,hq,e0,e1,e2,e3,e4,e5,e6,e7,e8,e9,e10,e11,e12,gg,hcm0,ga,hcm1,fB,hcm2,fL,fV,fW,fZ,gh,gi,gb,gd,g4,g5,g10,g11,g12,-,HR1,-,-,-,-,-⟩:=cG.opn hs
 clear hs
 have gM:¬q=w.heap.size:=aB
 have hbw:cE w w:=cE.refl w
 have ds1:(cR != 0)=false:=aG
 (obtain⟨b1,o1,cH,cM,cN,cO,cP,dn,hA1,hS1,hl1,hx1,hv1,eY,eG,fa,dY,er,gw,db,de,dq,dy,dz,dU⟩:=cw.at lk.out 0 aK;subst hA1;have jh:=hide (Dat.cC.bel hbw hv1);have hh1:=hbw.box b1 hl1;have hw1:=ak hl1 (cE.size hbw);replace db:=(hh1 _).trans db;replace de:=(hh1 _).trans de;replace dq:=(hh1 _).trans dq;replace dy:=(hh1 _).trans dy;replace dz:=(hh1 _).trans dz;replace dU:=(hh1 _).trans dU;have gv:=hide hx1;clear hh1 hv1 hx1 hS1;simp only[Nat.zero_mul,Nat.one_mul,Nat.add_zero,Nat.reduceMul,Nat.add_assoc,Nat.reduceAdd]at db de dq dy dz dU)
 (obtain⟨b2,o2,dG,dN,dQ,dV,dW,dZ,hA2,hS2,hl2,hx2,hv2,kY,km,lh,gY,kn,lH,fq,ft,fC,fF,fG,fK⟩:=cw.at lk.out 1 aK;injection Option.some.inj hA2 with qb2 sL _;subst qb2 sL;have xN:=hide (Dat.cC.bel hbw hv2);have hh2:=hbw.box b1 hl2;have hw2:=ak hl2 (cE.size hbw);replace fq:=(hh2 _).trans fq;replace ft:=(hh2 _).trans ft;replace fC:=(hh2 _).trans fC;replace fF:=(hh2 _).trans fF;replace fG:=(hh2 _).trans fG;replace fK:=(hh2 _).trans fK;have oz:=hide hx2;clear hh2 hv2 hx2 hS2;simp only[Nat.zero_mul,Nat.one_mul,Nat.add_zero,Nat.reduceMul,Nat.add_assoc,Nat.reduceAdd]at fq ft fC fF fG fK)
 obtain⟨rfl,rfl,rfl,rfl,rfl,rfl⟩:=cw.mk.inj (show cw.mk 2 u1 u2 u3 u4 u5=.mk cH cM cN cO cP dn from gv.out)
 have zI:=hide dY
 unfold maxLen at dY
 obtain⟨rfl,rfl,rfl,rfl,rfl,rfl⟩:=cw.mk.inj (show cw.mk 1 v1 v2 v3 v4 v5=.mk dG dN dQ dV dW dZ from oz.out)
 have Cx:=hide gY
 unfold maxLen at gY
 have hne1:¬b1=w.heap.size:=aB
 have hu3:u3.size<=120:=by
  exact Jb
 have hsm:IntKind.i64.wrap ((u3.size:Int)+1)=(u3.size:Int)+1:=ca
 have RR:=hide (show dx (cv.mk x0 x1 x2 x3 x4 x5 x6 x7 x8 x9 x10 x11 x12) (.mk 9 tag cR [.mk 2 u1 u2 u3 u4 u5,.mk 1 v1 v2 v3 v4 v5] keys)=false by rw[gZ];refine Bool.eq_false_iff.2 fun hh=>?_;simp only[Bool.and_eq_true,decide_eq_true_eq]at hh;(try simp only[cZ,da,cw.v]at hh);omega)
 have ec:(tag==0)=true:=aE
 have ed:(tag != 0)=false:=aG
 have dD:((keys.length:Int)==0)=true:=aE
 have dE:((keys.length:Int) != 0)=false:=aG
 clear dH dw jt
 have j6:=hide fT
 clear fT
 have oe:=hide iA
 clear iA
 have Xh:=hide (show (decide (1<=v1)&&decide (v1<=(u3.size:Int)+1))=false by simp;omega)
 exact adQ
theorem Fm (tag cR:Int) (u1 u2:Int) (u3:ByteArray) (u4 u5 v1 v2:Int) (v3:ByteArray) (v4 v5:Int) (keys:List cw) (s:cv) (jt:cR=0) (dH:tag=0) (dw:keys.length=0) (fT:inB s ⟨2,u1,u2,u3,u4,u5⟩=true) (iA:inB s ⟨1,v1,v2,v3,v4,v5⟩=true) (Fl:1<=v1/\v1<=(u3.size:Int)+1):ll 105 s (.mk 9 tag cR [.mk 2 u1 u2 u3 u4 u5,.mk 1 v1 v2 v3 v4 v5] keys):=by
 intro S S' q w vs hs hv
 have HS:=hide hs
 obtain⟨Ai,ci,Ak,ck,rfl,_,htag,AV,hRi,hRk⟩:=cz.vals hv
 have lk:=hide hRi
 have HRk:=hide hRk
 have lM:=hRi.1
 have mA:=hRi.2.1
 have hlk:=hRk.1
 have hmk:=hRk.2.1
 simp only[aj,az,aA,Nat.reduceAdd]at lM hlk
 unfold maxLen at mA hmk
 clear hRi hRk hv
 obtain⟨x0,x1,x2,x3,x4,x5,x6,x7,x8,x9,x10,x11,x12⟩:=s
 have jF:=hide hs
 obtain⟨A0,c0,A1,c1,A2,c2,A3,c3,A6,c6,A7,c7,A8,c8,hq,e0,e1,e2,e3,e4,e5,e6,e7,e8,e9,e10,e11,e12,gg,hcm0,ga,hcm1,fB,hcm2,fL,fV,fW,fZ,gh,gi,gb,gd,g4,g5,g10,g11,g12,-,HR1,-,-,-,-,-⟩:=cG.opn hs
 clear hs
 have gM:¬q=w.heap.size:=aB
 have hbw:cE w w:=cE.refl w
 have ds1:(cR != 0)=false:=aG
 (obtain⟨b1,o1,cH,cM,cN,cO,cP,dn,hA1,hS1,hl1,hx1,hv1,eY,eG,fa,dY,er,gw,db,de,dq,dy,dz,dU⟩:=cw.at lk.out 0 aK;subst hA1;have jh:=hide (Dat.cC.bel hbw hv1);have hh1:=hbw.box b1 hl1;have hw1:=ak hl1 (cE.size hbw);replace db:=(hh1 _).trans db;replace de:=(hh1 _).trans de;replace dq:=(hh1 _).trans dq;replace dy:=(hh1 _).trans dy;replace dz:=(hh1 _).trans dz;replace dU:=(hh1 _).trans dU;have gv:=hide hx1;clear hh1 hv1 hx1 hS1;simp only[Nat.zero_mul,Nat.one_mul,Nat.add_zero,Nat.reduceMul,Nat.add_assoc,Nat.reduceAdd]at db de dq dy dz dU)
 (obtain⟨b2,o2,dG,dN,dQ,dV,dW,dZ,hA2,hS2,hl2,hx2,hv2,kY,km,lh,gY,kn,lH,fq,ft,fC,fF,fG,fK⟩:=cw.at lk.out 1 aK;injection Option.some.inj hA2 with qb2 sL _;subst qb2 sL;have xN:=hide (Dat.cC.bel hbw hv2);have hh2:=hbw.box b1 hl2;have hw2:=ak hl2 (cE.size hbw);replace fq:=(hh2 _).trans fq;replace ft:=(hh2 _).trans ft;replace fC:=(hh2 _).trans fC;replace fF:=(hh2 _).trans fF;replace fG:=(hh2 _).trans fG;replace fK:=(hh2 _).trans fK;have oz:=hide hx2;clear hh2 hv2 hx2 hS2;simp only[Nat.zero_mul,Nat.one_mul,Nat.add_zero,Nat.reduceMul,Nat.add_assoc,Nat.reduceAdd]at fq ft fC fF fG fK)
 obtain⟨rfl,rfl,rfl,rfl,rfl,rfl⟩:=cw.mk.inj (show cw.mk 2 u1 u2 u3 u4 u5=.mk cH cM cN cO cP dn from gv.out)
 have zI:=hide dY
 unfold maxLen at dY
 obtain⟨rfl,rfl,rfl,rfl,rfl,rfl⟩:=cw.mk.inj (show cw.mk 1 v1 v2 v3 v4 v5=.mk dG dN dQ dV dW dZ from oz.out)
 have Cx:=hide gY
 unfold maxLen at gY
 have hne1:¬b1=w.heap.size:=aB
 have hu3:u3.size<=120:=by
  exact Jb
 have hsm:IntKind.i64.wrap ((u3.size:Int)+1)=(u3.size:Int)+1:=ca
 have RR:=hide (show dx (cv.mk x0 x1 x2 x3 x4 x5 x6 x7 x8 x9 x10 x11 x12) (.mk 9 tag cR [.mk 2 u1 u2 u3 u4 u5,.mk 1 v1 v2 v3 v4 v5] keys)=true by rw[gZ];simp only[Bool.and_eq_true,decide_eq_true_eq];(try simp only[cZ,da,cw.v]);(repeat' apply And.intro) <;> first | assumption | trivial | omega)
 have ec:(tag==0)=true:=aE
 have ed:(tag != 0)=false:=aG
 have dD:((keys.length:Int)==0)=true:=aE
 have dE:((keys.length:Int) != 0)=false:=aG
 clear dH dw jt
 have j6:=hide fT
 clear fT
 have oe:=hide iA
 clear iA
 have Xh:=hide (show (decide (1<=v1)&&decide (v1<=(u3.size:Int)+1))=true by simp;omega)
 exact adQ
end Go.Proofs.YtjngkknbpfgdcaaGreatDoor
