import Derived.Test.YtjngkknbpfgdcaaGreatDoorPr
import Derived.Test.YtjngkknbpfgdcaaGreatDoorPS5
set_option linter.unusedVariables false
set_option linter.unusedSimpArgs false
set_option maxRecDepth 100000
set_option maxHeartbeats 8000000
namespace Go.Proofs.YtjngkknbpfgdcaaGreatDoor
open Go.RowKit
--%quiet
theorem K0 (tag cR:Int) (its keys:List cw) (s:cv):ll 105 s (.mk 6 tag cR its keys):=by
 intro S S' q w vs hs hv
 have HS:=hide hs
 obtain⟨Ai,ci,Ak,ck,rfl,_,htag,jt,hRi,hRk⟩:=cz.vals hv
 have lk:=hide hRi
 have HRk:=hide hRk
 have lM:=hRi.1
 have mA:=hRi.2.1
 have hlk:=hRk.1
 have hmk:=hRk.2.1
 simp only[aj]at lM hlk
 unfold maxLen at mA hmk
 clear hRi hRk hv
 obtain⟨x0,x1,x2,x3,x4,x5,x6,x7,x8,x9,x10,x11,x12⟩:=s
 have jF:=hide hs
 obtain⟨A0,c0,A1,c1,A2,c2,A3,c3,A6,c6,A7,c7,A8,c8,hq,e0,e1,e2,e3,e4,e5,e6,e7,e8,e9,e10,e11,e12,gg,hcm0,ga,hcm1,fB,hcm2,fL,fV,fW,fZ,gh,gi,gb,gd,g4,g5,g10,g11,g12,-,HR1,-,-,-,-,-⟩:=cG.opn hs
 clear hs
 have gM:¬q=w.heap.size:=aB
 have hbw:cE w w:=cE.refl w
 by_cases hs1:cR<1
 case pos =>
  have RR:=hide (show dx (cv.mk x0 x1 x2 x3 x4 x5 x6 x7 x8 x9 x10 x11 x12) (.mk 6 tag cR its keys)=false by rw[fv];show (decide (1<=cR/\cR<=x12)&&_)=false;rw[aq (show ¬(1<=cR/\cR<=x12) by omega)];rfl)
  have ds1:decide (cR<1)=true:=aD
  exact sP
 case neg =>
 have ds1:decide (cR<1)=false:=aD
 by_cases hs2:x12<cR
 case pos =>
  have RR:=hide (show dx (cv.mk x0 x1 x2 x3 x4 x5 x6 x7 x8 x9 x10 x11 x12) (.mk 6 tag cR its keys)=false by rw[fv];show (decide (1<=cR/\cR<=x12)&&_)=false;rw[aq (show ¬(1<=cR/\cR<=x12) by omega)];rfl)
  have ds2:decide (x12<cR)=true:=aD
  exact sP
 case neg =>
 have ds2:decide (x12<cR)=false:=aD
 by_cases hlen:its.length=3
 case neg =>
  have ku:=hlen
  by_cases dw:keys.length=0
  case neg =>
   have RR:=hide (show dx (cv.mk x0 x1 x2 x3 x4 x5 x6 x7 x8 x9 x10 x11 x12) (.mk 6 tag cR its keys)=false by rw[fv];(try simp only[cv.cI,cv.cD,cZ,da,dp]);simp[dw])
   exact Ja
  case pos =>
  by_cases lI:1<=tag
  case neg =>
   have RR:=hide (show dx (cv.mk x0 x1 x2 x3 x4 x5 x6 x7 x8 x9 x10 x11 x12) (.mk 6 tag cR its keys)=false by rw[fv];(try simp only[cv.cI,cv.cD,cZ,da,dp]);simp[lI])
   exact Xf
  case pos =>
  have RR:=hide (show dx (cv.mk x0 x1 x2 x3 x4 x5 x6 x7 x8 x9 x10 x11 x12) (.mk 6 tag cR its keys)=false by rw[fv];(try simp only[cv.cI,cv.cD,cZ,da,dp]);simp[ku])
  have dD:((keys.length:Int)==0)=true:=aE
  have dE:((keys.length:Int) != 0)=false:=aG
  have ja:decide (1<=tag)=true:=ar aB
  have jO:decide (tag<1)=false:=aq aB
  have jP:decide (0<tag)=true:=ar aB
  have rp:((its.length:Int)==3)=false:=aI
  have rq:((its.length:Int) != 3)=true:=aH
  clear dw ku
  exact K1
 case pos =>
 obtain⟨a,b,c,rfl⟩:∃a b c,its=[a,b,c]:=by
  match its,hlen with
  | [a,b,c],_=>exact⟨a,b,c,rfl⟩
 simp only[az,aA,Nat.reduceAdd]at lM
 clear hlen
 (obtain⟨b1,o1,cH,cM,cN,cO,cP,dn,hA1,hS1,hl1,hx1,hv1,eY,eG,fa,dY,er,gw,db,de,dq,dy,dz,dU⟩:=cw.at lk.out 0 aK;subst hA1;have jh:=hide (Dat.cC.bel hbw hv1);have hh1:=hbw.box b1 hl1;have hw1:=ak hl1 (cE.size hbw);replace db:=(hh1 _).trans db;replace de:=(hh1 _).trans de;replace dq:=(hh1 _).trans dq;replace dy:=(hh1 _).trans dy;replace dz:=(hh1 _).trans dz;replace dU:=(hh1 _).trans dU;have gv:=hide hx1;clear hh1 hv1 hx1 hS1;simp only[Nat.zero_mul,Nat.one_mul,Nat.add_zero,Nat.reduceMul,Nat.add_assoc,Nat.reduceAdd]at db de dq dy dz dU)
 (obtain⟨b2,o2,dG,dN,dQ,dV,dW,dZ,hA2,hS2,hl2,hx2,hv2,kY,km,lh,gY,kn,lH,fq,ft,fC,fF,fG,fK⟩:=cw.at lk.out 1 aK;injection Option.some.inj hA2 with qb2 sL _;subst qb2 sL;have xN:=hide (Dat.cC.bel hbw hv2);have hh2:=hbw.box b1 hl2;have hw2:=ak hl2 (cE.size hbw);replace fq:=(hh2 _).trans fq;replace ft:=(hh2 _).trans ft;replace fC:=(hh2 _).trans fC;replace fF:=(hh2 _).trans fF;replace fG:=(hh2 _).trans fG;replace fK:=(hh2 _).trans fK;have oz:=hide hx2;clear hh2 hv2 hx2 hS2;simp only[Nat.zero_mul,Nat.one_mul,Nat.add_zero,Nat.reduceMul,Nat.add_assoc,Nat.reduceAdd]at fq ft fC fF fG fK)
 (obtain⟨b3,o3,j4,gx,iN,iO,iP,iQ,hA3,hS3,hl3,hx3,hv3,PE,PF,PG,Hl,PH,PI,wQ,rr,wR,wS,wT,wU⟩:=cw.at lk.out 2 aK;injection Option.some.inj hA3 with qb3 qo3 _;subst qb3 qo3;have HV3:=hide (Dat.cC.bel hbw hv3);have hh3:=hbw.box b1 hl3;have hw3:=ak hl3 (cE.size hbw);replace wQ:=(hh3 _).trans wQ;replace rr:=(hh3 _).trans rr;replace wR:=(hh3 _).trans wR;replace wS:=(hh3 _).trans wS;replace wT:=(hh3 _).trans wT;replace wU:=(hh3 _).trans wU;have ZO:=hide hx3;clear hh3 hv3 hx3 hS3;simp only[Nat.zero_mul,Nat.one_mul,Nat.add_zero,Nat.reduceMul,Nat.add_assoc,Nat.reduceAdd]at wQ rr wR wS wT wU)
 have hne1:¬b1=w.heap.size:=aB
 obtain rfl:a=.mk cH cM cN cO cP dn:=gv.out
 have zI:=hide dY
 unfold maxLen at dY
 obtain rfl:b=.mk dG dN dQ dV dW dZ:=oz.out
 have Cx:=hide gY
 unfold maxLen at gY
 obtain rfl:c=.mk j4 gx iN iO iP iQ:=ZO.out
 have GT3:=hide Hl
 unfold maxLen at Hl
 by_cases dw:keys.length=0
 case neg =>
  have RR:=hide (show dx (cv.mk x0 x1 x2 x3 x4 x5 x6 x7 x8 x9 x10 x11 x12) (.mk 6 tag cR [.mk cH cM cN cO cP dn,.mk dG dN dQ dV dW dZ,.mk j4 gx iN iO iP iQ] keys)=false by rw[fv];(try simp only[cv.cI,cv.cD,cZ,da,dp]);simp[dw])
  exact Ja
 case pos =>
 by_cases lI:1<=tag
 case neg =>
  have RR:=hide (show dx (cv.mk x0 x1 x2 x3 x4 x5 x6 x7 x8 x9 x10 x11 x12) (.mk 6 tag cR [.mk cH cM cN cO cP dn,.mk dG dN dQ dV dW dZ,.mk j4 gx iN iO iP iQ] keys)=false by rw[fv];(try simp only[cv.cI,cv.cD,cZ,da,dp]);simp[lI])
  exact Xf
 case pos =>
 by_cases j5:cH=19
 case neg =>
  have RR:=hide (show dx (cv.mk x0 x1 x2 x3 x4 x5 x6 x7 x8 x9 x10 x11 x12) (.mk 6 tag cR [.mk cH cM cN cO cP dn,.mk dG dN dQ dV dW dZ,.mk j4 gx iN iO iP iQ] keys)=false by rw[fv];(try simp only[cv.cI,cv.cD,cZ,da,dp]);simp[cw.v,j5])
  have dD:((keys.length:Int)==0)=true:=aE
  have dE:((keys.length:Int) != 0)=false:=aG
  have ja:decide (1<=tag)=true:=ar aB
  have jO:decide (tag<1)=false:=aq aB
  have jP:decide (0<tag)=true:=ar aB
  have PK:(cH==19)=false:=aI
  have PL:(cH != 19)=true:=aH
  clear dw j5
  exact K1
 case pos =>
 subst j5
 by_cases nk:dG=19
 case neg =>
  have RR:=hide (show dx (cv.mk x0 x1 x2 x3 x4 x5 x6 x7 x8 x9 x10 x11 x12) (.mk 6 tag cR [.mk 19 cM cN cO cP dn,.mk dG dN dQ dV dW dZ,.mk j4 gx iN iO iP iQ] keys)=false by rw[fv];(try simp only[cv.cI,cv.cD,cZ,da,dp]);simp[cw.v,nk])
  have dD:((keys.length:Int)==0)=true:=aE
  have dE:((keys.length:Int) != 0)=false:=aG
  have ja:decide (1<=tag)=true:=ar aB
  have jO:decide (tag<1)=false:=aq aB
  have jP:decide (0<tag)=true:=ar aB
  have ZP:(dG==19)=false:=aI
  have ZQ:(dG != 19)=true:=aH
  clear dw nk
  exact K1
 case pos =>
 subst nk
 by_cases yc:j4=1
 case neg =>
  have RR:=hide (show dx (cv.mk x0 x1 x2 x3 x4 x5 x6 x7 x8 x9 x10 x11 x12) (.mk 6 tag cR [.mk 19 cM cN cO cP dn,.mk 19 dN dQ dV dW dZ,.mk j4 gx iN iO iP iQ] keys)=false by rw[fv];(try simp only[cv.cI,cv.cD,cZ,da,dp]);simp[cw.v,yc])
  have dD:((keys.length:Int)==0)=true:=aE
  have dE:((keys.length:Int) != 0)=false:=aG
  have ja:decide (1<=tag)=true:=ar aB
  have jO:decide (tag<1)=false:=aq aB
  have jP:decide (0<tag)=true:=ar aB
  have ahz:(j4==1)=false:=aI
  have ahA:(j4 != 1)=true:=aH
  clear dw yc
  exact K1
 case pos =>
 subst yc
 by_cases DS:0<=gx
 case neg =>
  have RR:=hide (show dx (cv.mk x0 x1 x2 x3 x4 x5 x6 x7 x8 x9 x10 x11 x12) (.mk 6 tag cR [.mk 19 cM cN cO cP dn,.mk 19 dN dQ dV dW dZ,.mk 1 gx iN iO iP iQ] keys)=false from by rw[fv];refine Bool.eq_false_iff.2 fun hh=>?_;simp only[Bool.and_eq_true,decide_eq_true_eq]at hh;(try simp only[cZ,da,dp,cw.v]at hh);omega)
  have dD:((keys.length:Int)==0)=true:=aE
  have dE:((keys.length:Int) != 0)=false:=aG
  have ja:decide (1<=tag)=true:=ar aB
  have jO:decide (tag<1)=false:=aq aB
  have jP:decide (0<tag)=true:=ar aB
  have AU:decide (0<=gx)=false:=aq aB
  clear dw DS
  exact K1
 case pos =>
 cases fT:inB (cv.mk x0 x1 x2 x3 x4 x5 x6 x7 x8 x9 x10 x11 x12) ⟨19,cM,cN,cO,cP,dn⟩
 case false =>
  have RR:=hide (show dx (cv.mk x0 x1 x2 x3 x4 x5 x6 x7 x8 x9 x10 x11 x12) (.mk 6 tag cR [.mk 19 cM cN cO cP dn,.mk 19 dN dQ dV dW dZ,.mk 1 gx iN iO iP iQ] keys)=false by rw[fv];(try simp only[cv.cI,cv.cD,cZ,da,dp]);simp only[cw.v];rw[fT];simp)
  have dD:((keys.length:Int)==0)=true:=aE
  have dE:((keys.length:Int) != 0)=false:=aG
  have ja:decide (1<=tag)=true:=ar aB
  have jO:decide (tag<1)=false:=aq aB
  have jP:decide (0<tag)=true:=ar aB
  have AU:decide (0<=gx)=true:=ar aB
  have j6:=hide fT
  clear dw DS fT
  go_enter Tryz.func105,Tryz.ntmps105
  (go_wp2_with (fail))
  go_quiet (fail)
  go_upto_region 20 with (fail)
  simp only[List.append]
  (go_wp2_with (first | (go_at_call 45;(with_reducible refine (gp (cv.mk x0 x1 x2 x3 x4 x5 x6 x7 x8 x9 x10 x11 x12) ⟨19,cM,cN,cO,cP,dn⟩ S q _ (cG.bel bl HS.out) ⟨eY,eG,fa,zI.out,er,gw⟩).mono ?_);rintro e xO ⟨rfl,eM⟩;rw[j6.out];(have mX:=eM.sz;obtain⟨iB,iC,iD,iE⟩:=eM.lay (w.heap.size);obtain⟨iF,iG,iH,iI⟩:=eM.lay (q);obtain⟨qx,qy,qz,qA⟩:=eM.lay (b1)))))
  all_goals
   go_returns
   exact⟨by rw[RR.out];first | done | rfl,bl⟩
 case true =>
 cases iA:inB (cv.mk x0 x1 x2 x3 x4 x5 x6 x7 x8 x9 x10 x11 x12) ⟨19,dN,dQ,dV,dW,dZ⟩
 case false =>
  have RR:=hide (show dx (cv.mk x0 x1 x2 x3 x4 x5 x6 x7 x8 x9 x10 x11 x12) (.mk 6 tag cR [.mk 19 cM cN cO cP dn,.mk 19 dN dQ dV dW dZ,.mk 1 gx iN iO iP iQ] keys)=false by rw[fv];(try simp only[cv.cI,cv.cD,cZ,da,dp]);simp only[cw.v];rw[iA];simp)
  have dD:((keys.length:Int)==0)=true:=aE
  have dE:((keys.length:Int) != 0)=false:=aG
  have ja:decide (1<=tag)=true:=ar aB
  have jO:decide (tag<1)=false:=aq aB
  have jP:decide (0<tag)=true:=ar aB
  have AU:decide (0<=gx)=true:=ar aB
  have j6:=hide fT
  have oe:=hide iA
  clear dw DS fT iA
  go_enter Tryz.func105,Tryz.ntmps105
  (go_wp2_with (fail))
  go_quiet (fail)
  go_upto_region 20 with (fail)
  simp only[List.append]
  (go_wp2_with (first | (go_at_call 45;(with_reducible refine (gp (cv.mk x0 x1 x2 x3 x4 x5 x6 x7 x8 x9 x10 x11 x12) ⟨19,cM,cN,cO,cP,dn⟩ S q _ (cG.bel bl HS.out) ⟨eY,eG,fa,zI.out,er,gw⟩).mono ?_);rintro e xO ⟨rfl,eM⟩;rw[j6.out];(have mX:=eM.sz;obtain⟨iB,iC,iD,iE⟩:=eM.lay (w.heap.size);obtain⟨iF,iG,iH,iI⟩:=eM.lay (q);obtain⟨qx,qy,qz,qA⟩:=eM.lay (b1))) | (go_at_call 45;(with_reducible refine (gp (cv.mk x0 x1 x2 x3 x4 x5 x6 x7 x8 x9 x10 x11 x12) ⟨19,dN,dQ,dV,dW,dZ⟩ S q _ (cG.bel bl HS.out) ⟨kY,km,lh,Cx.out,kn,lH⟩).mono ?_);rintro e Sm ⟨rfl,jj⟩;rw[oe.out];(have BN:=jj.sz;obtain⟨qB,qC,qD,qE⟩:=jj.lay (w.heap.size);obtain⟨qF,qG,qH,qI⟩:=jj.lay (q);obtain⟨yd,ye,yf,yg⟩:=jj.lay (b1)))))
  all_goals
   go_returns
   exact⟨by rw[RR.out];first | done | rfl,bl⟩
 case true =>
 cases sA:inB (cv.mk x0 x1 x2 x3 x4 x5 x6 x7 x8 x9 x10 x11 x12) ⟨1,gx,iN,iO,iP,iQ⟩
 case false =>
  have RR:=hide (show dx (cv.mk x0 x1 x2 x3 x4 x5 x6 x7 x8 x9 x10 x11 x12) (.mk 6 tag cR [.mk 19 cM cN cO cP dn,.mk 19 dN dQ dV dW dZ,.mk 1 gx iN iO iP iQ] keys)=false by rw[fv];(try simp only[cv.cI,cv.cD,cZ,da,dp]);simp only[cw.v];rw[sA];simp)
  exact adP
 case true =>
 have RR:=hide (show dx (cv.mk x0 x1 x2 x3 x4 x5 x6 x7 x8 x9 x10 x11 x12) (.mk 6 tag cR [.mk 19 cM cN cO cP dn,.mk 19 dN dQ dV dW dZ,.mk 1 gx iN iO iP iQ] keys)=true by rw[fv];(try simp only[cv.cI,cv.cD,cZ,da,dp]);(try simp only[cw.v]);simp only[Bool.and_eq_true,decide_eq_true_eq];(repeat' apply And.intro) <;> first | assumption | trivial | exact ar ⟨by omega,by omega⟩ | exact ar aB | rfl | omega)
 exact adP
end Go.Proofs.YtjngkknbpfgdcaaGreatDoor
