import Derived.Test.YtjngkknbpfgdcaaGreatDoorPr
import Derived.Test.YtjngkknbpfgdcaaGreatDoorPS5bz
set_option linter.unusedVariables false
set_option linter.unusedSimpArgs false
set_option maxRecDepth 100000
set_option maxHeartbeats 8000000
namespace Go.Proofs.YtjngkknbpfgdcaaGreatDoor
open Go.RowKit
--%quiet
theorem K5 (tag cR:Int) (its keys:List cw) (s:cv):ll 41 s (.mk 4 tag cR its keys):=by
 intro S S' q w vs hs hv
 have HS:=hide hs
 obtain⟨Ai,ci,Ak,ck,rfl,_,htag,jt,hRi,hRk⟩:=cz.vals hv
 have lk:=hide hRi
 have HRk:=hide hRk
 have lM:=hRi.1
 have mA:=hRi.2.1
 have hlk:=hRk.1
 have hmk:=hRk.2.1
 simp only[aj]at lM hlk
 unfold maxLen at mA hmk
 clear hRi hRk hv
 obtain⟨x0,x1,x2,x3,x4,x5,x6,x7,x8,x9,x10,x11,x12⟩:=s
 have jF:=hide hs
 obtain⟨A0,c0,A1,c1,A2,c2,A3,c3,A6,c6,A7,c7,A8,c8,hq,e0,e1,e2,e3,e4,e5,e6,e7,e8,e9,e10,e11,e12,gg,hcm0,ga,hcm1,fB,hcm2,fL,fV,fW,fZ,gh,gi,gb,gd,g4,g5,g10,g11,g12,-,HR1,-,-,-,-,-⟩:=cG.opn hs
 clear hs
 have gM:¬q=w.heap.size:=aB
 have hbw:cE w w:=cE.refl w
 by_cases hs1:cR<1
 case pos =>
  have RR:=hide (show dx (cv.mk x0 x1 x2 x3 x4 x5 x6 x7 x8 x9 x10 x11 x12) (.mk 4 tag cR its keys)=false by rw[jl];show (decide (1<=cR/\cR<=x12)&&_)=false;rw[aq (show ¬(1<=cR/\cR<=x12) by omega)];rfl)
  have ds1:decide (cR<1)=true:=aD
  exact rT
 case neg =>
 have ds1:decide (cR<1)=false:=aD
 by_cases hs2:x12<cR
 case pos =>
  have RR:=hide (show dx (cv.mk x0 x1 x2 x3 x4 x5 x6 x7 x8 x9 x10 x11 x12) (.mk 4 tag cR its keys)=false by rw[jl];show (decide (1<=cR/\cR<=x12)&&_)=false;rw[aq (show ¬(1<=cR/\cR<=x12) by omega)];rfl)
  have ds2:decide (x12<cR)=true:=aD
  exact rT
 case neg =>
 have ds2:decide (x12<cR)=false:=aD
 by_cases dH:tag=0
 case neg =>
  by_cases fM:keys.length<=40
  case neg =>
   by_cases mu:its.length=0
   case neg =>
    have RR:=hide (show dx (cv.mk x0 x1 x2 x3 x4 x5 x6 x7 x8 x9 x10 x11 x12) (.mk 4 tag cR its keys)=false by rw[jl];(try simp only[cv.cI,cv.cD,cZ,da,dp]);simp[dH])
    have ec:(tag==0)=false:=aI
    have ed:(tag != 0)=true:=aH
    exact Xj
   case pos =>
   have RR:=hide (show dx (cv.mk x0 x1 x2 x3 x4 x5 x6 x7 x8 x9 x10 x11 x12) (.mk 4 tag cR its keys)=false by rw[jl];(try simp only[cv.cI,cv.cD,cZ,da,dp]);simp[dH])
   have ec:(tag==0)=false:=aI
   have ed:(tag != 0)=true:=aH
   exact Xk
  case pos =>
  cases iZ:oc keys
  case false =>
   by_cases mu:its.length=0
   case neg =>
    have RR:=hide (show dx (cv.mk x0 x1 x2 x3 x4 x5 x6 x7 x8 x9 x10 x11 x12) (.mk 4 tag cR its keys)=false by rw[jl];(try simp only[cv.cI,cv.cD,cZ,da,dp]);simp[dH])
    have ec:(tag==0)=false:=aI
    have ed:(tag != 0)=true:=aH
    exact Xl
   case pos =>
   have RR:=hide (show dx (cv.mk x0 x1 x2 x3 x4 x5 x6 x7 x8 x9 x10 x11 x12) (.mk 4 tag cR its keys)=false by rw[jl];(try simp only[cv.cI,cv.cD,cZ,da,dp]);simp[dH])
   have ec:(tag==0)=false:=aI
   have ed:(tag != 0)=true:=aH
   exact Xm
  case true =>
  cases gQ:allB (cv.mk x0 x1 x2 x3 x4 x5 x6 x7 x8 x9 x10 x11 x12) keys
  case false =>
   exact Xn
  case true =>
  exact Xn
 case pos =>
 by_cases fM:keys.length<=40
 case neg =>
  by_cases mu:its.length=0
  case neg =>
   have RR:=hide (show dx (cv.mk x0 x1 x2 x3 x4 x5 x6 x7 x8 x9 x10 x11 x12) (.mk 4 tag cR its keys)=false by rw[jl];(try simp only[cv.cI,cv.cD,cZ,da,dp]);simp[fM])
   have ec:(tag==0)=true:=aE
   have ed:(tag != 0)=false:=aG
   exact Xj
  case pos =>
  have RR:=hide (show dx (cv.mk x0 x1 x2 x3 x4 x5 x6 x7 x8 x9 x10 x11 x12) (.mk 4 tag cR its keys)=false by rw[jl];(try simp only[cv.cI,cv.cD,cZ,da,dp]);simp[fM])
  have ec:(tag==0)=true:=aE
  have ed:(tag != 0)=false:=aG
  exact Xk
 case pos =>
 cases iZ:oc keys
 case false =>
  by_cases mu:its.length=0
  case neg =>
   have RR:=hide (show dx (cv.mk x0 x1 x2 x3 x4 x5 x6 x7 x8 x9 x10 x11 x12) (.mk 4 tag cR its keys)=false by rw[jl];(try simp only[cv.cI,cv.cD,cZ,da,dp]);rw[iZ];simp)
   have ec:(tag==0)=true:=aE
   have ed:(tag != 0)=false:=aG
   exact Xl
  case pos =>
  have RR:=hide (show dx (cv.mk x0 x1 x2 x3 x4 x5 x6 x7 x8 x9 x10 x11 x12) (.mk 4 tag cR its keys)=false by rw[jl];(try simp only[cv.cI,cv.cD,cZ,da,dp]);rw[iZ];simp)
  have ec:(tag==0)=true:=aE
  have ed:(tag != 0)=false:=aG
  exact Xm
 case true =>
 cases gQ:allB (cv.mk x0 x1 x2 x3 x4 x5 x6 x7 x8 x9 x10 x11 x12) keys
 case false =>
  by_cases mu:its.length=0
  case neg =>
   have RR:=hide (show dx (cv.mk x0 x1 x2 x3 x4 x5 x6 x7 x8 x9 x10 x11 x12) (.mk 4 tag cR its keys)=false by rw[jl];(try simp only[cv.cI,cv.cD,cZ,da,dp]);rw[gQ];simp)
   have ec:(tag==0)=true:=aE
   have ed:(tag != 0)=false:=aG
   exact Xo
  case pos =>
  have RR:=hide (show dx (cv.mk x0 x1 x2 x3 x4 x5 x6 x7 x8 x9 x10 x11 x12) (.mk 4 tag cR its keys)=false by rw[jl];(try simp only[cv.cI,cv.cD,cZ,da,dp]);rw[gQ];simp)
  have ec:(tag==0)=true:=aE
  have ed:(tag != 0)=false:=aG
  exact Xp
 case true =>
 by_cases mu:its.length=0
 case neg =>
  have RR:=hide (show dx (cv.mk x0 x1 x2 x3 x4 x5 x6 x7 x8 x9 x10 x11 x12) (.mk 4 tag cR its keys)=false by rw[jl];(try simp only[cv.cI,cv.cD,cZ,da,dp]);simp[mu])
  have ec:(tag==0)=true:=aE
  have ed:(tag != 0)=false:=aG
  exact Xo
 case pos =>
 have RR:=hide (show dx (cv.mk x0 x1 x2 x3 x4 x5 x6 x7 x8 x9 x10 x11 x12) (.mk 4 tag cR its keys)=true by rw[jl];(try simp only[cv.cI,cv.cD,cZ,da,dp]);(try simp only[cw.v]);simp only[Bool.and_eq_true,decide_eq_true_eq];(repeat' apply And.intro) <;> first | assumption | trivial | exact ar ⟨by omega,by omega⟩ | exact ar aB | rfl | omega)
 have ec:(tag==0)=true:=aE
 have ed:(tag != 0)=false:=aG
 exact Xp
theorem K6 (tag cR:Int) (its keys:List cw) (s:cv):ll 41 s (.mk 5 tag cR its keys):=by
 intro S S' q w vs hs hv
 have HS:=hide hs
 obtain⟨Ai,ci,Ak,ck,rfl,_,htag,jt,hRi,hRk⟩:=cz.vals hv
 have lk:=hide hRi
 have HRk:=hide hRk
 have lM:=hRi.1
 have mA:=hRi.2.1
 have hlk:=hRk.1
 have hmk:=hRk.2.1
 simp only[aj]at lM hlk
 unfold maxLen at mA hmk
 clear hRi hRk hv
 obtain⟨x0,x1,x2,x3,x4,x5,x6,x7,x8,x9,x10,x11,x12⟩:=s
 have jF:=hide hs
 obtain⟨A0,c0,A1,c1,A2,c2,A3,c3,A6,c6,A7,c7,A8,c8,hq,e0,e1,e2,e3,e4,e5,e6,e7,e8,e9,e10,e11,e12,gg,hcm0,ga,hcm1,fB,hcm2,fL,fV,fW,fZ,gh,gi,gb,gd,g4,g5,g10,g11,g12,-,HR1,-,-,-,-,-⟩:=cG.opn hs
 clear hs
 have gM:¬q=w.heap.size:=aB
 have hbw:cE w w:=cE.refl w
 by_cases hs1:cR<1
 case pos =>
  have RR:=hide (show dx (cv.mk x0 x1 x2 x3 x4 x5 x6 x7 x8 x9 x10 x11 x12) (.mk 5 tag cR its keys)=false by rw[ox];show (decide (1<=cR/\cR<=x12)&&_)=false;rw[aq (show ¬(1<=cR/\cR<=x12) by omega)];rfl)
  have ds1:decide (cR<1)=true:=aD
  exact rT
 case neg =>
 have ds1:decide (cR<1)=false:=aD
 by_cases hs2:x12<cR
 case pos =>
  have RR:=hide (show dx (cv.mk x0 x1 x2 x3 x4 x5 x6 x7 x8 x9 x10 x11 x12) (.mk 5 tag cR its keys)=false by rw[ox];show (decide (1<=cR/\cR<=x12)&&_)=false;rw[aq (show ¬(1<=cR/\cR<=x12) by omega)];rfl)
  have ds2:decide (x12<cR)=true:=aD
  exact rT
 case neg =>
 have ds2:decide (x12<cR)=false:=aD
 by_cases tA:0<=tag
 case neg =>
  by_cases dw:keys.length=0
  case neg =>
   have RR:=hide (show dx (cv.mk x0 x1 x2 x3 x4 x5 x6 x7 x8 x9 x10 x11 x12) (.mk 5 tag cR its keys)=false by rw[ox];(try simp only[cv.cI,cv.cD,cZ,da,dp]);simp[tA])
   have AR:decide (0<=tag)=false:=aq aB
   have dD:((keys.length:Int)==0)=false:=aI
   have dE:((keys.length:Int) != 0)=true:=aH
   clear tA dw
   exact rT
  case pos =>
  have RR:=hide (show dx (cv.mk x0 x1 x2 x3 x4 x5 x6 x7 x8 x9 x10 x11 x12) (.mk 5 tag cR its keys)=false by rw[ox];(try simp only[cv.cI,cv.cD,cZ,da,dp]);simp[tA])
  have AR:decide (0<=tag)=false:=aq aB
  have dD:((keys.length:Int)==0)=true:=aE
  have dE:((keys.length:Int) != 0)=false:=aG
  clear tA dw
  exact rT
 case pos =>
 by_cases lI:tag<(x1.length:Int)
 case neg =>
  by_cases dw:keys.length=0
  case neg =>
   have RR:=hide (show dx (cv.mk x0 x1 x2 x3 x4 x5 x6 x7 x8 x9 x10 x11 x12) (.mk 5 tag cR its keys)=false by rw[ox];(try simp only[cv.cI,cv.cD,cZ,da,dp]);simp[lI])
   have AR:decide (0<=tag)=true:=ar aB
   have ja:decide (tag<(x1.length:Int))=false:=aq aB
   have dD:((keys.length:Int)==0)=false:=aI
   have dE:((keys.length:Int) != 0)=true:=aH
   clear tA lI dw
   exact rT
  case pos =>
  have RR:=hide (show dx (cv.mk x0 x1 x2 x3 x4 x5 x6 x7 x8 x9 x10 x11 x12) (.mk 5 tag cR its keys)=false by rw[ox];(try simp only[cv.cI,cv.cD,cZ,da,dp]);simp[lI])
  have AR:decide (0<=tag)=true:=ar aB
  have ja:decide (tag<(x1.length:Int))=false:=aq aB
  have dD:((keys.length:Int)==0)=true:=aE
  have dE:((keys.length:Int) != 0)=false:=aG
  clear tA lI dw
  exact rT
 case pos =>
 obtain⟨m,hm⟩:=Int.eq_ofNat_of_zero_le tA
 have hlt:m<x1.length:=aB
 (obtain⟨b4,o4,jf,gA,jg,ZL,ZM,hA4,hS4,hl4,hx4,hv4,adL,KY,adM,Fb,Fc,Fe⟩:=cA.at HR1.out m hlt;subst hA4;have HV4:=hide (Dat.cC.bel hbw hv4);have hh4:=hbw.box b4 hl4;have hw4:=ak hl4 (cE.size hbw);replace Fb:=(hh4 _).trans Fb;replace Fc:=(hh4 _).trans Fc;replace Fe:=(hh4 _).trans Fe;have Xc:=hide hx4;have Ff:=hide KY;clear hh4 hv4 hx4 hS4 KY)
 have aht:¬b4=w.heap.size:=aB
 have hx:(x1.getD tag.toNat (.mk ByteArray.empty [] 0)).fields=gA:=by
  exact Xd
 have hf4:=Ff.out.1
 have ZN:=Ff.out.2.1
 simp only[aj]at hf4
 unfold maxLen at ZN
 by_cases DR:its.length=gA.length
 case neg =>
  by_cases dw:keys.length=0
  case neg =>
   have RR:=hide (show dx (cv.mk x0 x1 x2 x3 x4 x5 x6 x7 x8 x9 x10 x11 x12) (.mk 5 tag cR its keys)=false by rw[oH (cv.mk x0 x1 x2 x3 x4 x5 x6 x7 x8 x9 x10 x11 x12) _ _ _ _ gA hx];(try simp only[cv.cI,cv.cD]);simp[DR])
   have AR:decide (0<=tag)=true:=ar aB
   have ja:decide (tag<(x1.length:Int))=true:=ar aB
   have PD:((its.length:Int)==(gA.length:Int))=false:=aI
   clear hx
   subst hm
   have dD:((keys.length:Int)==0)=false:=aI
   have dE:((keys.length:Int) != 0)=true:=aH
   clear tA lI DR dw
   exact rT
  case pos =>
  have RR:=hide (show dx (cv.mk x0 x1 x2 x3 x4 x5 x6 x7 x8 x9 x10 x11 x12) (.mk 5 tag cR its keys)=false by rw[oH (cv.mk x0 x1 x2 x3 x4 x5 x6 x7 x8 x9 x10 x11 x12) _ _ _ _ gA hx];(try simp only[cv.cI,cv.cD]);simp[DR])
  have AR:decide (0<=tag)=true:=ar aB
  have ja:decide (tag<(x1.length:Int))=true:=ar aB
  have PD:((its.length:Int)==(gA.length:Int))=false:=aI
  clear hx
  subst hm
  have dD:((keys.length:Int)==0)=true:=aE
  have dE:((keys.length:Int) != 0)=false:=aG
  clear tA lI DR dw
  exact rT
 case pos =>
 cases fu:allB (cv.mk x0 x1 x2 x3 x4 x5 x6 x7 x8 x9 x10 x11 x12) its
 case false =>
  by_cases dw:keys.length=0
  case neg =>
   have RR:=hide (show dx (cv.mk x0 x1 x2 x3 x4 x5 x6 x7 x8 x9 x10 x11 x12) (.mk 5 tag cR its keys)=false by rw[oH (cv.mk x0 x1 x2 x3 x4 x5 x6 x7 x8 x9 x10 x11 x12) _ _ _ _ gA hx];(try simp only[cv.cI,cv.cD]);rw[fu];simp)
   exact Xq
  case pos =>
  have RR:=hide (show dx (cv.mk x0 x1 x2 x3 x4 x5 x6 x7 x8 x9 x10 x11 x12) (.mk 5 tag cR its keys)=false by rw[oH (cv.mk x0 x1 x2 x3 x4 x5 x6 x7 x8 x9 x10 x11 x12) _ _ _ _ gA hx];(try simp only[cv.cI,cv.cD]);rw[fu];simp)
  exact Xr
 case true =>
 by_cases dw:keys.length=0
 case neg =>
  have RR:=hide (show dx (cv.mk x0 x1 x2 x3 x4 x5 x6 x7 x8 x9 x10 x11 x12) (.mk 5 tag cR its keys)=false by rw[oH (cv.mk x0 x1 x2 x3 x4 x5 x6 x7 x8 x9 x10 x11 x12) _ _ _ _ gA hx];(try simp only[cv.cI,cv.cD]);simp[dw])
  exact Xq
 case pos =>
 have RR:=hide (show dx (cv.mk x0 x1 x2 x3 x4 x5 x6 x7 x8 x9 x10 x11 x12) (.mk 5 tag cR its keys)=true by rw[oH (cv.mk x0 x1 x2 x3 x4 x5 x6 x7 x8 x9 x10 x11 x12) _ _ _ _ gA hx];(try simp only[cv.cI,cv.cD,cZ,da,dp]);(try simp only[cw.v]);simp only[Bool.and_eq_true,decide_eq_true_eq];(repeat' apply And.intro) <;> first | assumption | trivial | exact ar ⟨by omega,by omega⟩ | exact ar aB | rfl | omega)
 exact Xr
theorem K7 (tag cR:Int) (its keys:List cw) (s:cv):ll 41 s (.mk 7 tag cR its keys):=by
 intro S S' q w vs hs hv
 have HS:=hide hs
 obtain⟨Ai,ci,Ak,ck,rfl,_,htag,jt,hRi,hRk⟩:=cz.vals hv
 have lk:=hide hRi
 have HRk:=hide hRk
 have lM:=hRi.1
 have mA:=hRi.2.1
 have hlk:=hRk.1
 have hmk:=hRk.2.1
 simp only[aj]at lM hlk
 unfold maxLen at mA hmk
 clear hRi hRk hv
 obtain⟨x0,x1,x2,x3,x4,x5,x6,x7,x8,x9,x10,x11,x12⟩:=s
 have jF:=hide hs
 obtain⟨A0,c0,A1,c1,A2,c2,A3,c3,A6,c6,A7,c7,A8,c8,hq,e0,e1,e2,e3,e4,e5,e6,e7,e8,e9,e10,e11,e12,gg,hcm0,ga,hcm1,fB,hcm2,fL,fV,fW,fZ,gh,gi,gb,gd,g4,g5,g10,g11,g12,-,HR1,-,-,-,-,-⟩:=cG.opn hs
 clear hs
 have gM:¬q=w.heap.size:=aB
 have hbw:cE w w:=cE.refl w
 by_cases hs1:cR<1
 case pos =>
  have RR:=hide (show dx (cv.mk x0 x1 x2 x3 x4 x5 x6 x7 x8 x9 x10 x11 x12) (.mk 7 tag cR its keys)=false by rw[qw];show (decide (1<=cR/\cR<=x12)&&_)=false;rw[aq (show ¬(1<=cR/\cR<=x12) by omega)];rfl)
  have ds1:decide (cR<1)=true:=aD
  exact rT
 case neg =>
 have ds1:decide (cR<1)=false:=aD
 by_cases hs2:x12<cR
 case pos =>
  have RR:=hide (show dx (cv.mk x0 x1 x2 x3 x4 x5 x6 x7 x8 x9 x10 x11 x12) (.mk 7 tag cR its keys)=false by rw[qw];show (decide (1<=cR/\cR<=x12)&&_)=false;rw[aq (show ¬(1<=cR/\cR<=x12) by omega)];rfl)
  have ds2:decide (x12<cR)=true:=aD
  exact rT
 case neg =>
 have ds2:decide (x12<cR)=false:=aD
 by_cases dw:keys.length=0
 case neg =>
  cases yC:eV (cv.mk x0 x1 x2 x3 x4 x5 x6 x7 x8 x9 x10 x11 x12) tag its
  case false =>
   exact Xs
  case true =>
  exact Xs
 case pos =>
 cases yC:eV (cv.mk x0 x1 x2 x3 x4 x5 x6 x7 x8 x9 x10 x11 x12) tag its
 case false =>
  have RR:=hide (show dx (cv.mk x0 x1 x2 x3 x4 x5 x6 x7 x8 x9 x10 x11 x12) (.mk 7 tag cR its keys)=false by rw[qw];(try simp only[cv.cI,cv.cD,cZ,da,dp]);rw[yC];simp)
  exact Xt
 case true =>
 have RR:=hide (show dx (cv.mk x0 x1 x2 x3 x4 x5 x6 x7 x8 x9 x10 x11 x12) (.mk 7 tag cR its keys)=true by rw[qw];(try simp only[cv.cI,cv.cD,cZ,da,dp]);(try simp only[cw.v]);simp only[Bool.and_eq_true,decide_eq_true_eq];(repeat' apply And.intro) <;> first | assumption | trivial | exact ar ⟨by omega,by omega⟩ | exact ar aB | rfl | omega)
 exact Xt
theorem Fo (kd:Int) (hkd:kd<1\/9<kd) (tag cR:Int) (its keys:List cw) (s:cv):ll 41 s (.mk kd tag cR its keys):=by
 intro S S' q w vs hs hv
 have HS:=hide hs
 obtain⟨Ai,ci,Ak,ck,rfl,_,htag,jt,hRi,hRk⟩:=cz.vals hv
 have lk:=hide hRi
 have HRk:=hide hRk
 have lM:=hRi.1
 have mA:=hRi.2.1
 have hlk:=hRk.1
 have hmk:=hRk.2.1
 simp only[aj]at lM hlk
 unfold maxLen at mA hmk
 clear hRi hRk hv
 obtain⟨x0,x1,x2,x3,x4,x5,x6,x7,x8,x9,x10,x11,x12⟩:=s
 have jF:=hide hs
 obtain⟨A0,c0,A1,c1,A2,c2,A3,c3,A6,c6,A7,c7,A8,c8,hq,e0,e1,e2,e3,e4,e5,e6,e7,e8,e9,e10,e11,e12,gg,hcm0,ga,hcm1,fB,hcm2,fL,fV,fW,fZ,gh,gi,gb,gd,g4,g5,g10,g11,g12,-,HR1,-,-,-,-,-⟩:=cG.opn hs
 clear hs
 have gM:¬q=w.heap.size:=aB
 have hbw:cE w w:=cE.refl w
 have RR:=hide (Fh (cv.mk x0 x1 x2 x3 x4 x5 x6 x7 x8 x9 x10 x11 x12) kd tag cR its keys hkd)
 have k_1:(kd==1)=false:=aD
 have k_2:(kd==2)=false:=aD
 have k_3:(kd==3)=false:=aD
 have k_4:(kd==4)=false:=aD
 have k_5:(kd==5)=false:=aD
 have k_6:(kd==6)=false:=aD
 have k_7:(kd==7)=false:=aD
 have k_8:(kd==8)=false:=aD
 have k_9:(kd==9)=false:=aD
 have m_3:(kd != 3)=true:=aD
 have m_4:(kd != 4)=true:=aD
 have m_5:(kd != 5)=true:=aD
 have m_6:(kd != 6)=true:=aD
 have m_7:(kd != 7)=true:=aD
 have hlo:(decide (2<=kd)&&decide (kd<=7))=false:=aD
 rcases hkd with hkd | hkd
 ·
  have d_2:decide (2<=kd)=false:=aD
  exact Xu
 ·
  have d_2:decide (2<=kd)=true:=aD
  have d_7:decide (kd<=7)=false:=aD
  exact Xu
end Go.Proofs.YtjngkknbpfgdcaaGreatDoor
