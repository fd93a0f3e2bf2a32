import Derived.Test.YtjngkknbpfgdcaaGreatDoorPr
import Derived.Test.YtjngkknbpfgdcaaGreatDoorPS5bz
set_option linter.unusedVariables false
set_option linter.unusedSimpArgs false
set_option maxRecDepth 100000
set_option maxHeartbeats 8000000
namespace Go.Proofs.YtjngkknbpfgdcaaGreatDoor
open Go.RowKit
--%quiet
theorem Lf (tag cR:Int) (its keys:List cw) (s:cv):ll 41 s (.mk 8 tag cR its keys):=by
 intro S S' q w vs hs hv
 have HS:=hide hs
 obtain⟨Ai,ci,Ak,ck,rfl,_,htag,jt,hRi,hRk⟩:=cz.vals hv
 have lk:=hide hRi
 have HRk:=hide hRk
 have lM:=hRi.1
 have mA:=hRi.2.1
 have hlk:=hRk.1
 have hmk:=hRk.2.1
 simp only[aj]at lM hlk
 unfold maxLen at mA hmk
 clear hRi hRk hv
 obtain⟨x0,x1,x2,x3,x4,x5,x6,x7,x8,x9,x10,x11,x12⟩:=s
 have jF:=hide hs
 obtain⟨A0,c0,A1,c1,A2,c2,A3,c3,A6,c6,A7,c7,A8,c8,hq,e0,e1,e2,e3,e4,e5,e6,e7,e8,e9,e10,e11,e12,gg,hcm0,ga,hcm1,fB,hcm2,fL,fV,fW,fZ,gh,gi,gb,gd,g4,g5,g10,g11,g12,-,HR1,-,-,-,-,-⟩:=cG.opn hs
 clear hs
 have gM:¬q=w.heap.size:=aB
 have hbw:cE w w:=cE.refl w
 by_cases hs1:¬cR=0
 case pos =>
  have RR:=hide (show dx (cv.mk x0 x1 x2 x3 x4 x5 x6 x7 x8 x9 x10 x11 x12) (.mk 8 tag cR its keys)=false by rw[je];show (decide (cR=0)&&_)=false;rw[aq hs1];rfl)
  have ds1:(cR != 0)=true:=aD
  exact rT
 case neg =>
 have ds1:(cR != 0)=false:=aD
 by_cases hlen:its.length=2
 case neg =>
  have ku:=hlen
  by_cases dH:tag=0
  case neg =>
   by_cases dw:keys.length=0
   case neg =>
    have RR:=hide (show dx (cv.mk x0 x1 x2 x3 x4 x5 x6 x7 x8 x9 x10 x11 x12) (.mk 8 tag cR its keys)=false by rw[je];(try simp only[cv.cI,cv.cD,cZ,da,dp]);simp[ku])
    have rp:((its.length:Int)==2)=false:=aI
    have rq:((its.length:Int) != 2)=true:=aH
    have ec:(tag==0)=false:=aI
    have ed:(tag != 0)=true:=aH
    exact Ji
   case pos =>
   have RR:=hide (show dx (cv.mk x0 x1 x2 x3 x4 x5 x6 x7 x8 x9 x10 x11 x12) (.mk 8 tag cR its keys)=false by rw[je];(try simp only[cv.cI,cv.cD,cZ,da,dp]);simp[ku])
   have rp:((its.length:Int)==2)=false:=aI
   have rq:((its.length:Int) != 2)=true:=aH
   have ec:(tag==0)=false:=aI
   have ed:(tag != 0)=true:=aH
   exact Jj
  case pos =>
  by_cases dw:keys.length=0
  case neg =>
   have RR:=hide (show dx (cv.mk x0 x1 x2 x3 x4 x5 x6 x7 x8 x9 x10 x11 x12) (.mk 8 tag cR its keys)=false by rw[je];(try simp only[cv.cI,cv.cD,cZ,da,dp]);simp[ku])
   have rp:((its.length:Int)==2)=false:=aI
   have rq:((its.length:Int) != 2)=true:=aH
   have ec:(tag==0)=true:=aE
   have ed:(tag != 0)=false:=aG
   exact Ji
  case pos =>
  have RR:=hide (show dx (cv.mk x0 x1 x2 x3 x4 x5 x6 x7 x8 x9 x10 x11 x12) (.mk 8 tag cR its keys)=false by rw[je];(try simp only[cv.cI,cv.cD,cZ,da,dp]);simp[ku])
  have rp:((its.length:Int)==2)=false:=aI
  have rq:((its.length:Int) != 2)=true:=aH
  have ec:(tag==0)=true:=aE
  have ed:(tag != 0)=false:=aG
  exact Jj
 case pos =>
 obtain⟨a,b,rfl⟩:∃a b,its=[a,b]:=by
  match its,hlen with
  | [a,b],_=>exact⟨a,b,rfl⟩
 simp only[az,aA,Nat.reduceAdd]at lM
 clear hlen
 (obtain⟨b1,o1,cH,cM,cN,cO,cP,dn,hA1,hS1,hl1,hx1,hv1,eY,eG,fa,dY,er,gw,db,de,dq,dy,dz,dU⟩:=cw.at lk.out 0 aK;subst hA1;have jh:=hide (Dat.cC.bel hbw hv1);have hh1:=hbw.box b1 hl1;have hw1:=ak hl1 (cE.size hbw);replace db:=(hh1 _).trans db;replace de:=(hh1 _).trans de;replace dq:=(hh1 _).trans dq;replace dy:=(hh1 _).trans dy;replace dz:=(hh1 _).trans dz;replace dU:=(hh1 _).trans dU;have gv:=hide hx1;clear hh1 hv1 hx1 hS1;simp only[Nat.zero_mul,Nat.one_mul,Nat.add_zero,Nat.reduceMul,Nat.add_assoc,Nat.reduceAdd]at db de dq dy dz dU)
 (obtain⟨b2,o2,dG,dN,dQ,dV,dW,dZ,hA2,hS2,hl2,hx2,hv2,kY,km,lh,gY,kn,lH,fq,ft,fC,fF,fG,fK⟩:=cw.at lk.out 1 aK;injection Option.some.inj hA2 with qb2 sL _;subst qb2 sL;have xN:=hide (Dat.cC.bel hbw hv2);have hh2:=hbw.box b1 hl2;have hw2:=ak hl2 (cE.size hbw);replace fq:=(hh2 _).trans fq;replace ft:=(hh2 _).trans ft;replace fC:=(hh2 _).trans fC;replace fF:=(hh2 _).trans fF;replace fG:=(hh2 _).trans fG;replace fK:=(hh2 _).trans fK;have oz:=hide hx2;clear hh2 hv2 hx2 hS2;simp only[Nat.zero_mul,Nat.one_mul,Nat.add_zero,Nat.reduceMul,Nat.add_assoc,Nat.reduceAdd]at fq ft fC fF fG fK)
 have hne1:¬b1=w.heap.size:=aB
 obtain rfl:a=.mk cH cM cN cO cP dn:=gv.out
 have zI:=hide dY
 unfold maxLen at dY
 obtain rfl:b=.mk dG dN dQ dV dW dZ:=oz.out
 have Cx:=hide gY
 unfold maxLen at gY
 have DT:=hide (show ∀(wx:World),cG wx S q (cv.mk x0 x1 x2 x3 x4 x5 x6 x7 x8 x9 x10 x11 x12)->Row wx S' 6 (some ⟨b1,o1,none⟩) ci (([.mk cH cM cN cO cP dn,.mk dG dN dQ dV dW dZ]:List cw).map cw.D)->Calls Tryz.prog 40 #[.pointer (some ⟨q,0,none⟩),.slice (some ⟨b1,o1,none⟩) 2 ci] wx fun e w'=>e=.returned (.bool (allB (cv.mk x0 x1 x2 x3 x4 x5 x6 x7 x8 x9 x10 x11 x12) [.mk cH cM cN cO cP dn,.mk dG dN dQ dV dW dZ]))/\cE wx w' from fun wx h1 h2=>gP (cv.mk x0 x1 x2 x3 x4 x5 x6 x7 x8 x9 x10 x11 x12) [.mk cH cM cN cO cP dn,.mk dG dN dQ dV dW dZ] S S' q wx _ ci h1 h2)
 by_cases dH:tag=0
 case neg =>
  by_cases dw:keys.length=0
  case neg =>
   by_cases j5:cH=5
   case neg =>
    have RR:=hide (show dx (cv.mk x0 x1 x2 x3 x4 x5 x6 x7 x8 x9 x10 x11 x12) (.mk 8 tag cR [.mk cH cM cN cO cP dn,.mk dG dN dQ dV dW dZ] keys)=false by rw[je];(try simp only[cv.cI,cv.cD,cZ,da,dp]);simp[dH])
    have ec:(tag==0)=false:=aI
    have ed:(tag != 0)=true:=aH
    have dD:((keys.length:Int)==0)=false:=aI
    have dE:((keys.length:Int) != 0)=true:=aH
    exact Jk
   case pos =>
   subst j5
   cases ml:allB (cv.mk x0 x1 x2 x3 x4 x5 x6 x7 x8 x9 x10 x11 x12) [.mk 5 cM cN cO cP dn,.mk dG dN dQ dV dW dZ]
   case false =>
    exact XC
   case true =>
   exact XC
  case pos =>
  by_cases j5:cH=5
  case neg =>
   have RR:=hide (show dx (cv.mk x0 x1 x2 x3 x4 x5 x6 x7 x8 x9 x10 x11 x12) (.mk 8 tag cR [.mk cH cM cN cO cP dn,.mk dG dN dQ dV dW dZ] keys)=false by rw[je];(try simp only[cv.cI,cv.cD,cZ,da,dp]);simp[dH])
   have ec:(tag==0)=false:=aI
   have ed:(tag != 0)=true:=aH
   have dD:((keys.length:Int)==0)=true:=aE
   have dE:((keys.length:Int) != 0)=false:=aG
   exact Jk
  case pos =>
  subst j5
  cases ml:allB (cv.mk x0 x1 x2 x3 x4 x5 x6 x7 x8 x9 x10 x11 x12) [.mk 5 cM cN cO cP dn,.mk dG dN dQ dV dW dZ]
  case false =>
   exact XD
  case true =>
  exact XD
 case pos =>
 by_cases dw:keys.length=0
 case neg =>
  by_cases j5:cH=5
  case neg =>
   have RR:=hide (show dx (cv.mk x0 x1 x2 x3 x4 x5 x6 x7 x8 x9 x10 x11 x12) (.mk 8 tag cR [.mk cH cM cN cO cP dn,.mk dG dN dQ dV dW dZ] keys)=false by rw[je];(try simp only[cv.cI,cv.cD,cZ,da,dp]);simp[dw])
   have ec:(tag==0)=true:=aE
   have ed:(tag != 0)=false:=aG
   have dD:((keys.length:Int)==0)=false:=aI
   have dE:((keys.length:Int) != 0)=true:=aH
   exact Jk
  case pos =>
  subst j5
  cases ml:allB (cv.mk x0 x1 x2 x3 x4 x5 x6 x7 x8 x9 x10 x11 x12) [.mk 5 cM cN cO cP dn,.mk dG dN dQ dV dW dZ]
  case false =>
   exact XE
  case true =>
  exact XE
 case pos =>
 by_cases j5:cH=5
 case neg =>
  have RR:=hide (show dx (cv.mk x0 x1 x2 x3 x4 x5 x6 x7 x8 x9 x10 x11 x12) (.mk 8 tag cR [.mk cH cM cN cO cP dn,.mk dG dN dQ dV dW dZ] keys)=false by rw[je];(try simp only[cv.cI,cv.cD,cZ,da,dp]);simp[cw.v,j5])
  have ec:(tag==0)=true:=aE
  have ed:(tag != 0)=false:=aG
  have dD:((keys.length:Int)==0)=true:=aE
  have dE:((keys.length:Int) != 0)=false:=aG
  exact Jk
 case pos =>
 subst j5
 cases ml:allB (cv.mk x0 x1 x2 x3 x4 x5 x6 x7 x8 x9 x10 x11 x12) [.mk 5 cM cN cO cP dn,.mk dG dN dQ dV dW dZ]
 case false =>
  have RR:=hide (show dx (cv.mk x0 x1 x2 x3 x4 x5 x6 x7 x8 x9 x10 x11 x12) (.mk 8 tag cR [.mk 5 cM cN cO cP dn,.mk dG dN dQ dV dW dZ] keys)=false from Lh _ _ _ _ _ _ rfl ml)
  have ec:(tag==0)=true:=aE
  have ed:(tag != 0)=false:=aG
  exact XF
 case true =>
 have RR:=hide (show dx (cv.mk x0 x1 x2 x3 x4 x5 x6 x7 x8 x9 x10 x11 x12) (.mk 8 tag cR [.mk 5 cM cN cO cP dn,.mk dG dN dQ dV dW dZ] keys)=true by rw[je];(try simp only[cv.cI,cv.cD,cZ,da,dp]);(try simp only[cw.v]);simp only[Bool.and_eq_true,decide_eq_true_eq];(repeat' apply And.intro) <;> first | assumption | trivial | exact ar ⟨by omega,by omega⟩ | exact ar aB | rfl | omega | exact xz ml | exact Tg ml | exact Fv ml)
 have ec:(tag==0)=true:=aE
 have ed:(tag != 0)=false:=aG
 exact XF
theorem Ho (tag cR:Int) (its keys:List cw) (s:cv) (h9:¬(cR=0/\its.length=2/\(pQ its 0).k=2/\(pQ its 1).k=1)):ll 41 s (.mk 9 tag cR its keys):=by
 intro S S' q w vs hs hv
 have HS:=hide hs
 obtain⟨Ai,ci,Ak,ck,rfl,_,htag,jt,hRi,hRk⟩:=cz.vals hv
 have lk:=hide hRi
 have HRk:=hide hRk
 have lM:=hRi.1
 have mA:=hRi.2.1
 have hlk:=hRk.1
 have hmk:=hRk.2.1
 simp only[aj]at lM hlk
 unfold maxLen at mA hmk
 clear hRi hRk hv
 obtain⟨x0,x1,x2,x3,x4,x5,x6,x7,x8,x9,x10,x11,x12⟩:=s
 have jF:=hide hs
 obtain⟨A0,c0,A1,c1,A2,c2,A3,c3,A6,c6,A7,c7,A8,c8,hq,e0,e1,e2,e3,e4,e5,e6,e7,e8,e9,e10,e11,e12,gg,hcm0,ga,hcm1,fB,hcm2,fL,fV,fW,fZ,gh,gi,gb,gd,g4,g5,g10,g11,g12,-,HR1,-,-,-,-,-⟩:=cG.opn hs
 clear hs
 have gM:¬q=w.heap.size:=aB
 have hbw:cE w w:=cE.refl w
 by_cases hs1:¬cR=0
 case pos =>
  have RR:=hide (show dx (cv.mk x0 x1 x2 x3 x4 x5 x6 x7 x8 x9 x10 x11 x12) (.mk 9 tag cR its keys)=false by rw[gZ];show (decide (cR=0)&&_)=false;rw[aq hs1];rfl)
  have ds1:(cR != 0)=true:=aD
  exact rT
 case neg =>
 have ds1:(cR != 0)=false:=aD
 by_cases hlen:its.length=2
 case neg =>
  have ku:=hlen
  by_cases dH:tag=0
  case neg =>
   by_cases dw:keys.length=0
   case neg =>
    have RR:=hide (show dx (cv.mk x0 x1 x2 x3 x4 x5 x6 x7 x8 x9 x10 x11 x12) (.mk 9 tag cR its keys)=false by rw[gZ];(try simp only[cv.cI,cv.cD,cZ,da,dp]);simp[ku])
    have rp:((its.length:Int)==2)=false:=aI
    have rq:((its.length:Int) != 2)=true:=aH
    have ec:(tag==0)=false:=aI
    have ed:(tag != 0)=true:=aH
    exact Ji
   case pos =>
   have RR:=hide (show dx (cv.mk x0 x1 x2 x3 x4 x5 x6 x7 x8 x9 x10 x11 x12) (.mk 9 tag cR its keys)=false by rw[gZ];(try simp only[cv.cI,cv.cD,cZ,da,dp]);simp[ku])
   have rp:((its.length:Int)==2)=false:=aI
   have rq:((its.length:Int) != 2)=true:=aH
   have ec:(tag==0)=false:=aI
   have ed:(tag != 0)=true:=aH
   exact Jj
  case pos =>
  by_cases dw:keys.length=0
  case neg =>
   have RR:=hide (show dx (cv.mk x0 x1 x2 x3 x4 x5 x6 x7 x8 x9 x10 x11 x12) (.mk 9 tag cR its keys)=false by rw[gZ];(try simp only[cv.cI,cv.cD,cZ,da,dp]);simp[ku])
   have rp:((its.length:Int)==2)=false:=aI
   have rq:((its.length:Int) != 2)=true:=aH
   have ec:(tag==0)=true:=aE
   have ed:(tag != 0)=false:=aG
   exact Ji
  case pos =>
  have RR:=hide (show dx (cv.mk x0 x1 x2 x3 x4 x5 x6 x7 x8 x9 x10 x11 x12) (.mk 9 tag cR its keys)=false by rw[gZ];(try simp only[cv.cI,cv.cD,cZ,da,dp]);simp[ku])
  have rp:((its.length:Int)==2)=false:=aI
  have rq:((its.length:Int) != 2)=true:=aH
  have ec:(tag==0)=true:=aE
  have ed:(tag != 0)=false:=aG
  exact Jj
 case pos =>
 obtain⟨a,b,rfl⟩:∃a b,its=[a,b]:=by
  match its,hlen with
  | [a,b],_=>exact⟨a,b,rfl⟩
 simp only[az,aA,Nat.reduceAdd]at lM
 clear hlen
 (obtain⟨b1,o1,cH,cM,cN,cO,cP,dn,hA1,hS1,hl1,hx1,hv1,eY,eG,fa,dY,er,gw,db,de,dq,dy,dz,dU⟩:=cw.at lk.out 0 aK;subst hA1;have jh:=hide (Dat.cC.bel hbw hv1);have hh1:=hbw.box b1 hl1;have hw1:=ak hl1 (cE.size hbw);replace db:=(hh1 _).trans db;replace de:=(hh1 _).trans de;replace dq:=(hh1 _).trans dq;replace dy:=(hh1 _).trans dy;replace dz:=(hh1 _).trans dz;replace dU:=(hh1 _).trans dU;have gv:=hide hx1;clear hh1 hv1 hx1 hS1;simp only[Nat.zero_mul,Nat.one_mul,Nat.add_zero,Nat.reduceMul,Nat.add_assoc,Nat.reduceAdd]at db de dq dy dz dU)
 (obtain⟨b2,o2,dG,dN,dQ,dV,dW,dZ,hA2,hS2,hl2,hx2,hv2,kY,km,lh,gY,kn,lH,fq,ft,fC,fF,fG,fK⟩:=cw.at lk.out 1 aK;injection Option.some.inj hA2 with qb2 sL _;subst qb2 sL;have xN:=hide (Dat.cC.bel hbw hv2);have hh2:=hbw.box b1 hl2;have hw2:=ak hl2 (cE.size hbw);replace fq:=(hh2 _).trans fq;replace ft:=(hh2 _).trans ft;replace fC:=(hh2 _).trans fC;replace fF:=(hh2 _).trans fF;replace fG:=(hh2 _).trans fG;replace fK:=(hh2 _).trans fK;have oz:=hide hx2;clear hh2 hv2 hx2 hS2;simp only[Nat.zero_mul,Nat.one_mul,Nat.add_zero,Nat.reduceMul,Nat.add_assoc,Nat.reduceAdd]at fq ft fC fF fG fK)
 have hne1:¬b1=w.heap.size:=aB
 obtain rfl:a=.mk cH cM cN cO cP dn:=gv.out
 have zI:=hide dY
 unfold maxLen at dY
 obtain rfl:b=.mk dG dN dQ dV dW dZ:=oz.out
 have Cx:=hide gY
 unfold maxLen at gY
 have DT:=hide (show ∀(wx:World),cG wx S q (cv.mk x0 x1 x2 x3 x4 x5 x6 x7 x8 x9 x10 x11 x12)->Row wx S' 6 (some ⟨b1,o1,none⟩) ci (([.mk cH cM cN cO cP dn,.mk dG dN dQ dV dW dZ]:List cw).map cw.D)->Calls Tryz.prog 40 #[.pointer (some ⟨q,0,none⟩),.slice (some ⟨b1,o1,none⟩) 2 ci] wx fun e w'=>e=.returned (.bool (allB (cv.mk x0 x1 x2 x3 x4 x5 x6 x7 x8 x9 x10 x11 x12) [.mk cH cM cN cO cP dn,.mk dG dN dQ dV dW dZ]))/\cE wx w' from fun wx h1 h2=>gP (cv.mk x0 x1 x2 x3 x4 x5 x6 x7 x8 x9 x10 x11 x12) [.mk cH cM cN cO cP dn,.mk dG dN dQ dV dW dZ] S S' q wx _ ci h1 h2)
 by_cases dH:tag=0
 case neg =>
  by_cases dw:keys.length=0
  case neg =>
   by_cases j5:cH=2
   case neg =>
    have RR:=hide (show dx (cv.mk x0 x1 x2 x3 x4 x5 x6 x7 x8 x9 x10 x11 x12) (.mk 9 tag cR [.mk cH cM cN cO cP dn,.mk dG dN dQ dV dW dZ] keys)=false by rw[gZ];(try simp only[cv.cI,cv.cD,cZ,da,dp]);simp[dH])
    have ec:(tag==0)=false:=aI
    have ed:(tag != 0)=true:=aH
    have dD:((keys.length:Int)==0)=false:=aI
    have dE:((keys.length:Int) != 0)=true:=aH
    exact Jl
   case pos =>
   subst j5
   by_cases nk:dG=1
   case neg =>
    have RR:=hide (show dx (cv.mk x0 x1 x2 x3 x4 x5 x6 x7 x8 x9 x10 x11 x12) (.mk 9 tag cR [.mk 2 cM cN cO cP dn,.mk dG dN dQ dV dW dZ] keys)=false by rw[gZ];(try simp only[cv.cI,cv.cD,cZ,da,dp]);simp[dH])
    have ec:(tag==0)=false:=aI
    have ed:(tag != 0)=true:=aH
    have dD:((keys.length:Int)==0)=false:=aI
    have dE:((keys.length:Int) != 0)=true:=aH
    exact Jm
   case pos =>
   subst nk
   exact absurd ⟨by omega,rfl,rfl,rfl⟩ h9
  case pos =>
  by_cases j5:cH=2
  case neg =>
   have RR:=hide (show dx (cv.mk x0 x1 x2 x3 x4 x5 x6 x7 x8 x9 x10 x11 x12) (.mk 9 tag cR [.mk cH cM cN cO cP dn,.mk dG dN dQ dV dW dZ] keys)=false by rw[gZ];(try simp only[cv.cI,cv.cD,cZ,da,dp]);simp[dH])
   have ec:(tag==0)=false:=aI
   have ed:(tag != 0)=true:=aH
   have dD:((keys.length:Int)==0)=true:=aE
   have dE:((keys.length:Int) != 0)=false:=aG
   exact Jl
  case pos =>
  subst j5
  by_cases nk:dG=1
  case neg =>
   have RR:=hide (show dx (cv.mk x0 x1 x2 x3 x4 x5 x6 x7 x8 x9 x10 x11 x12) (.mk 9 tag cR [.mk 2 cM cN cO cP dn,.mk dG dN dQ dV dW dZ] keys)=false by rw[gZ];(try simp only[cv.cI,cv.cD,cZ,da,dp]);simp[dH])
   have ec:(tag==0)=false:=aI
   have ed:(tag != 0)=true:=aH
   have dD:((keys.length:Int)==0)=true:=aE
   have dE:((keys.length:Int) != 0)=false:=aG
   exact Jm
  case pos =>
  subst nk
  exact absurd ⟨by omega,rfl,rfl,rfl⟩ h9
 case pos =>
 by_cases dw:keys.length=0
 case neg =>
  by_cases j5:cH=2
  case neg =>
   have RR:=hide (show dx (cv.mk x0 x1 x2 x3 x4 x5 x6 x7 x8 x9 x10 x11 x12) (.mk 9 tag cR [.mk cH cM cN cO cP dn,.mk dG dN dQ dV dW dZ] keys)=false by rw[gZ];(try simp only[cv.cI,cv.cD,cZ,da,dp]);simp[dw])
   have ec:(tag==0)=true:=aE
   have ed:(tag != 0)=false:=aG
   have dD:((keys.length:Int)==0)=false:=aI
   have dE:((keys.length:Int) != 0)=true:=aH
   exact Jl
  case pos =>
  subst j5
  by_cases nk:dG=1
  case neg =>
   have RR:=hide (show dx (cv.mk x0 x1 x2 x3 x4 x5 x6 x7 x8 x9 x10 x11 x12) (.mk 9 tag cR [.mk 2 cM cN cO cP dn,.mk dG dN dQ dV dW dZ] keys)=false by rw[gZ];(try simp only[cv.cI,cv.cD,cZ,da,dp]);simp[dw])
   have ec:(tag==0)=true:=aE
   have ed:(tag != 0)=false:=aG
   have dD:((keys.length:Int)==0)=false:=aI
   have dE:((keys.length:Int) != 0)=true:=aH
   exact Jm
  case pos =>
  subst nk
  exact absurd ⟨by omega,rfl,rfl,rfl⟩ h9
 case pos =>
 by_cases j5:cH=2
 case neg =>
  have RR:=hide (show dx (cv.mk x0 x1 x2 x3 x4 x5 x6 x7 x8 x9 x10 x11 x12) (.mk 9 tag cR [.mk cH cM cN cO cP dn,.mk dG dN dQ dV dW dZ] keys)=false by rw[gZ];(try simp only[cv.cI,cv.cD,cZ,da,dp]);simp[cw.v,j5])
  have ec:(tag==0)=true:=aE
  have ed:(tag != 0)=false:=aG
  have dD:((keys.length:Int)==0)=true:=aE
  have dE:((keys.length:Int) != 0)=false:=aG
  exact Jl
 case pos =>
 subst j5
 by_cases nk:dG=1
 case neg =>
  have RR:=hide (show dx (cv.mk x0 x1 x2 x3 x4 x5 x6 x7 x8 x9 x10 x11 x12) (.mk 9 tag cR [.mk 2 cM cN cO cP dn,.mk dG dN dQ dV dW dZ] keys)=false by rw[gZ];(try simp only[cv.cI,cv.cD,cZ,da,dp]);simp[cw.v,nk])
  have ec:(tag==0)=true:=aE
  have ed:(tag != 0)=false:=aG
  have dD:((keys.length:Int)==0)=true:=aE
  have dE:((keys.length:Int) != 0)=false:=aG
  exact Jm
 case pos =>
 subst nk
 exact absurd ⟨by omega,rfl,rfl,rfl⟩ h9
end Go.Proofs.YtjngkknbpfgdcaaGreatDoor
