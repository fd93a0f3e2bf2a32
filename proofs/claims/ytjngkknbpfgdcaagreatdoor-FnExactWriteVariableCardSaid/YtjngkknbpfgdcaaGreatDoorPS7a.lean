import Derived.Test.YtjngkknbpfgdcaaGreatDoorPr
import Derived.Test.YtjngkknbpfgdcaaGreatDoorPS5bz
set_option linter.unusedVariables false
set_option linter.unusedSimpArgs false
set_option maxRecDepth 100000
set_option maxHeartbeats 8000000
namespace Go.Proofs.YtjngkknbpfgdcaaGreatDoor
open Go.RowKit
--%quiet
theorem K3 (tag cR:Int) (its keys:List cw) (s:cv):ll 41 s (.mk 1 tag cR its keys):=by
 intro S S' q w vs hs hv
 have HS:=hide hs
 obtain⟨Ai,ci,Ak,ck,rfl,_,htag,jt,hRi,hRk⟩:=cz.vals hv
 have lk:=hide hRi
 have HRk:=hide hRk
 have lM:=hRi.1
 have mA:=hRi.2.1
 have hlk:=hRk.1
 have hmk:=hRk.2.1
 simp only[aj]at lM hlk
 unfold maxLen at mA hmk
 clear hRi hRk hv
 obtain⟨x0,x1,x2,x3,x4,x5,x6,x7,x8,x9,x10,x11,x12⟩:=s
 have jF:=hide hs
 obtain⟨A0,c0,A1,c1,A2,c2,A3,c3,A6,c6,A7,c7,A8,c8,hq,e0,e1,e2,e3,e4,e5,e6,e7,e8,e9,e10,e11,e12,gg,hcm0,ga,hcm1,fB,hcm2,fL,fV,fW,fZ,gh,gi,gb,gd,g4,g5,g10,g11,g12,-,HR1,-,-,-,-,-⟩:=cG.opn hs
 clear hs
 have gM:¬q=w.heap.size:=aB
 have hbw:cE w w:=cE.refl w
 by_cases hs1:¬cR=0
 case pos =>
  have RR:=hide (show dx (cv.mk x0 x1 x2 x3 x4 x5 x6 x7 x8 x9 x10 x11 x12) (.mk 1 tag cR its keys)=false by rw[kA];show (decide (cR=0)&&_)=false;rw[aq hs1];rfl)
  have ds1:(cR != 0)=true:=aD
  exact rT
 case neg =>
 have ds1:(cR != 0)=false:=aD
 by_cases dH:tag=0
 case neg =>
  by_cases dw:keys.length=0
  case neg =>
   by_cases lT:its.length<=24
   case neg =>
    have RR:=hide (show dx (cv.mk x0 x1 x2 x3 x4 x5 x6 x7 x8 x9 x10 x11 x12) (.mk 1 tag cR its keys)=false by rw[kA];(try simp only[cv.cI,cv.cD,cZ,da,dp]);simp[dH])
    have ec:(tag==0)=false:=aI
    have ed:(tag != 0)=true:=aH
    have dD:((keys.length:Int)==0)=false:=aI
    have dE:((keys.length:Int) != 0)=true:=aH
    exact Jc
   case pos =>
   cases fu:allB (cv.mk x0 x1 x2 x3 x4 x5 x6 x7 x8 x9 x10 x11 x12) its
   case false =>
    have RR:=hide (show dx (cv.mk x0 x1 x2 x3 x4 x5 x6 x7 x8 x9 x10 x11 x12) (.mk 1 tag cR its keys)=false by rw[kA];(try simp only[cv.cI,cv.cD,cZ,da,dp]);simp[dH])
    have ec:(tag==0)=false:=aI
    have ed:(tag != 0)=true:=aH
    have dD:((keys.length:Int)==0)=false:=aI
    have dE:((keys.length:Int) != 0)=true:=aH
    exact yD
   case true =>
   have RR:=hide (show dx (cv.mk x0 x1 x2 x3 x4 x5 x6 x7 x8 x9 x10 x11 x12) (.mk 1 tag cR its keys)=false by rw[kA];(try simp only[cv.cI,cv.cD,cZ,da,dp]);simp[dH])
   have ec:(tag==0)=false:=aI
   have ed:(tag != 0)=true:=aH
   have dD:((keys.length:Int)==0)=false:=aI
   have dE:((keys.length:Int) != 0)=true:=aH
   exact yD
  case pos =>
  by_cases lT:its.length<=24
  case neg =>
   have RR:=hide (show dx (cv.mk x0 x1 x2 x3 x4 x5 x6 x7 x8 x9 x10 x11 x12) (.mk 1 tag cR its keys)=false by rw[kA];(try simp only[cv.cI,cv.cD,cZ,da,dp]);simp[dH])
   have ec:(tag==0)=false:=aI
   have ed:(tag != 0)=true:=aH
   have dD:((keys.length:Int)==0)=true:=aE
   have dE:((keys.length:Int) != 0)=false:=aG
   exact Jc
  case pos =>
  cases fu:allB (cv.mk x0 x1 x2 x3 x4 x5 x6 x7 x8 x9 x10 x11 x12) its
  case false =>
   have RR:=hide (show dx (cv.mk x0 x1 x2 x3 x4 x5 x6 x7 x8 x9 x10 x11 x12) (.mk 1 tag cR its keys)=false by rw[kA];(try simp only[cv.cI,cv.cD,cZ,da,dp]);simp[dH])
   have ec:(tag==0)=false:=aI
   have ed:(tag != 0)=true:=aH
   have dD:((keys.length:Int)==0)=true:=aE
   have dE:((keys.length:Int) != 0)=false:=aG
   exact yD
  case true =>
  have RR:=hide (show dx (cv.mk x0 x1 x2 x3 x4 x5 x6 x7 x8 x9 x10 x11 x12) (.mk 1 tag cR its keys)=false by rw[kA];(try simp only[cv.cI,cv.cD,cZ,da,dp]);simp[dH])
  have ec:(tag==0)=false:=aI
  have ed:(tag != 0)=true:=aH
  have dD:((keys.length:Int)==0)=true:=aE
  have dE:((keys.length:Int) != 0)=false:=aG
  exact yD
 case pos =>
 by_cases dw:keys.length=0
 case neg =>
  by_cases lT:its.length<=24
  case neg =>
   have RR:=hide (show dx (cv.mk x0 x1 x2 x3 x4 x5 x6 x7 x8 x9 x10 x11 x12) (.mk 1 tag cR its keys)=false by rw[kA];(try simp only[cv.cI,cv.cD,cZ,da,dp]);simp[dw])
   have ec:(tag==0)=true:=aE
   have ed:(tag != 0)=false:=aG
   have dD:((keys.length:Int)==0)=false:=aI
   have dE:((keys.length:Int) != 0)=true:=aH
   exact Jc
  case pos =>
  cases fu:allB (cv.mk x0 x1 x2 x3 x4 x5 x6 x7 x8 x9 x10 x11 x12) its
  case false =>
   have RR:=hide (show dx (cv.mk x0 x1 x2 x3 x4 x5 x6 x7 x8 x9 x10 x11 x12) (.mk 1 tag cR its keys)=false by rw[kA];(try simp only[cv.cI,cv.cD,cZ,da,dp]);simp[dw])
   have ec:(tag==0)=true:=aE
   have ed:(tag != 0)=false:=aG
   have dD:((keys.length:Int)==0)=false:=aI
   have dE:((keys.length:Int) != 0)=true:=aH
   exact yD
  case true =>
  have RR:=hide (show dx (cv.mk x0 x1 x2 x3 x4 x5 x6 x7 x8 x9 x10 x11 x12) (.mk 1 tag cR its keys)=false by rw[kA];(try simp only[cv.cI,cv.cD,cZ,da,dp]);simp[dw])
  have ec:(tag==0)=true:=aE
  have ed:(tag != 0)=false:=aG
  have dD:((keys.length:Int)==0)=false:=aI
  have dE:((keys.length:Int) != 0)=true:=aH
  exact yD
 case pos =>
 by_cases lT:its.length<=24
 case neg =>
  have RR:=hide (show dx (cv.mk x0 x1 x2 x3 x4 x5 x6 x7 x8 x9 x10 x11 x12) (.mk 1 tag cR its keys)=false by rw[kA];(try simp only[cv.cI,cv.cD,cZ,da,dp]);simp[lT])
  have ec:(tag==0)=true:=aE
  have ed:(tag != 0)=false:=aG
  have dD:((keys.length:Int)==0)=true:=aE
  have dE:((keys.length:Int) != 0)=false:=aG
  exact Jc
 case pos =>
 cases fu:allB (cv.mk x0 x1 x2 x3 x4 x5 x6 x7 x8 x9 x10 x11 x12) its
 case false =>
  have RR:=hide (show dx (cv.mk x0 x1 x2 x3 x4 x5 x6 x7 x8 x9 x10 x11 x12) (.mk 1 tag cR its keys)=false by rw[kA];(try simp only[cv.cI,cv.cD,cZ,da,dp]);rw[fu];simp)
  have ec:(tag==0)=true:=aE
  have ed:(tag != 0)=false:=aG
  have dD:((keys.length:Int)==0)=true:=aE
  have dE:((keys.length:Int) != 0)=false:=aG
  exact yD
 case true =>
 have RR:=hide (show dx (cv.mk x0 x1 x2 x3 x4 x5 x6 x7 x8 x9 x10 x11 x12) (.mk 1 tag cR its keys)=true by rw[kA];(try simp only[cv.cI,cv.cD,cZ,da,dp]);(try simp only[cw.v]);simp only[Bool.and_eq_true,decide_eq_true_eq];(repeat' apply And.intro) <;> first | assumption | trivial | exact ar ⟨by omega,by omega⟩ | exact ar aB | rfl | omega)
 have ec:(tag==0)=true:=aE
 have ed:(tag != 0)=false:=aG
 have dD:((keys.length:Int)==0)=true:=aE
 have dE:((keys.length:Int) != 0)=false:=aG
 exact yD
theorem K4 (tag cR:Int) (its keys:List cw) (s:cv):ll 41 s (.mk 2 tag cR its keys):=by
 intro S S' q w vs hs hv
 have HS:=hide hs
 obtain⟨Ai,ci,Ak,ck,rfl,_,htag,jt,hRi,hRk⟩:=cz.vals hv
 have lk:=hide hRi
 have HRk:=hide hRk
 have lM:=hRi.1
 have mA:=hRi.2.1
 have hlk:=hRk.1
 have hmk:=hRk.2.1
 simp only[aj]at lM hlk
 unfold maxLen at mA hmk
 clear hRi hRk hv
 obtain⟨x0,x1,x2,x3,x4,x5,x6,x7,x8,x9,x10,x11,x12⟩:=s
 have jF:=hide hs
 obtain⟨A0,c0,A1,c1,A2,c2,A3,c3,A6,c6,A7,c7,A8,c8,hq,e0,e1,e2,e3,e4,e5,e6,e7,e8,e9,e10,e11,e12,gg,hcm0,ga,hcm1,fB,hcm2,fL,fV,fW,fZ,gh,gi,gb,gd,g4,g5,g10,g11,g12,-,HR1,-,-,-,-,-⟩:=cG.opn hs
 clear hs
 have gM:¬q=w.heap.size:=aB
 have hbw:cE w w:=cE.refl w
 by_cases hs1:cR<1
 case pos =>
  have RR:=hide (show dx (cv.mk x0 x1 x2 x3 x4 x5 x6 x7 x8 x9 x10 x11 x12) (.mk 2 tag cR its keys)=false by rw[jT];show (decide (1<=cR/\cR<=x12)&&_)=false;rw[aq (show ¬(1<=cR/\cR<=x12) by omega)];rfl)
  have ds1:decide (cR<1)=true:=aD
  exact rT
 case neg =>
 have ds1:decide (cR<1)=false:=aD
 by_cases hs2:x12<cR
 case pos =>
  have RR:=hide (show dx (cv.mk x0 x1 x2 x3 x4 x5 x6 x7 x8 x9 x10 x11 x12) (.mk 2 tag cR its keys)=false by rw[jT];show (decide (1<=cR/\cR<=x12)&&_)=false;rw[aq (show ¬(1<=cR/\cR<=x12) by omega)];rfl)
  have ds2:decide (x12<cR)=true:=aD
  exact rT
 case neg =>
 have ds2:decide (x12<cR)=false:=aD
 by_cases dH:tag=0
 case neg =>
  by_cases dw:keys.length=0
  case neg =>
   by_cases lT:its.length<=40
   case neg =>
    have RR:=hide (show dx (cv.mk x0 x1 x2 x3 x4 x5 x6 x7 x8 x9 x10 x11 x12) (.mk 2 tag cR its keys)=false by rw[jT];(try simp only[cv.cI,cv.cD,cZ,da,dp]);simp[dH])
    have ec:(tag==0)=false:=aI
    have ed:(tag != 0)=true:=aH
    have dD:((keys.length:Int)==0)=false:=aI
    have dE:((keys.length:Int) != 0)=true:=aH
    exact Jd
   case pos =>
   cases fu:allB (cv.mk x0 x1 x2 x3 x4 x5 x6 x7 x8 x9 x10 x11 x12) its
   case false =>
    have RR:=hide (show dx (cv.mk x0 x1 x2 x3 x4 x5 x6 x7 x8 x9 x10 x11 x12) (.mk 2 tag cR its keys)=false by rw[jT];(try simp only[cv.cI,cv.cD,cZ,da,dp]);simp[dH])
    have ec:(tag==0)=false:=aI
    have ed:(tag != 0)=true:=aH
    have dD:((keys.length:Int)==0)=false:=aI
    have dE:((keys.length:Int) != 0)=true:=aH
    exact yE
   case true =>
   have RR:=hide (show dx (cv.mk x0 x1 x2 x3 x4 x5 x6 x7 x8 x9 x10 x11 x12) (.mk 2 tag cR its keys)=false by rw[jT];(try simp only[cv.cI,cv.cD,cZ,da,dp]);simp[dH])
   have ec:(tag==0)=false:=aI
   have ed:(tag != 0)=true:=aH
   have dD:((keys.length:Int)==0)=false:=aI
   have dE:((keys.length:Int) != 0)=true:=aH
   exact yE
  case pos =>
  by_cases lT:its.length<=40
  case neg =>
   have RR:=hide (show dx (cv.mk x0 x1 x2 x3 x4 x5 x6 x7 x8 x9 x10 x11 x12) (.mk 2 tag cR its keys)=false by rw[jT];(try simp only[cv.cI,cv.cD,cZ,da,dp]);simp[dH])
   have ec:(tag==0)=false:=aI
   have ed:(tag != 0)=true:=aH
   have dD:((keys.length:Int)==0)=true:=aE
   have dE:((keys.length:Int) != 0)=false:=aG
   exact Jd
  case pos =>
  cases fu:allB (cv.mk x0 x1 x2 x3 x4 x5 x6 x7 x8 x9 x10 x11 x12) its
  case false =>
   have RR:=hide (show dx (cv.mk x0 x1 x2 x3 x4 x5 x6 x7 x8 x9 x10 x11 x12) (.mk 2 tag cR its keys)=false by rw[jT];(try simp only[cv.cI,cv.cD,cZ,da,dp]);simp[dH])
   have ec:(tag==0)=false:=aI
   have ed:(tag != 0)=true:=aH
   have dD:((keys.length:Int)==0)=true:=aE
   have dE:((keys.length:Int) != 0)=false:=aG
   exact yE
  case true =>
  have RR:=hide (show dx (cv.mk x0 x1 x2 x3 x4 x5 x6 x7 x8 x9 x10 x11 x12) (.mk 2 tag cR its keys)=false by rw[jT];(try simp only[cv.cI,cv.cD,cZ,da,dp]);simp[dH])
  have ec:(tag==0)=false:=aI
  have ed:(tag != 0)=true:=aH
  have dD:((keys.length:Int)==0)=true:=aE
  have dE:((keys.length:Int) != 0)=false:=aG
  exact yE
 case pos =>
 by_cases dw:keys.length=0
 case neg =>
  by_cases lT:its.length<=40
  case neg =>
   have RR:=hide (show dx (cv.mk x0 x1 x2 x3 x4 x5 x6 x7 x8 x9 x10 x11 x12) (.mk 2 tag cR its keys)=false by rw[jT];(try simp only[cv.cI,cv.cD,cZ,da,dp]);simp[dw])
   have ec:(tag==0)=true:=aE
   have ed:(tag != 0)=false:=aG
   have dD:((keys.length:Int)==0)=false:=aI
   have dE:((keys.length:Int) != 0)=true:=aH
   exact Jd
  case pos =>
  cases fu:allB (cv.mk x0 x1 x2 x3 x4 x5 x6 x7 x8 x9 x10 x11 x12) its
  case false =>
   have RR:=hide (show dx (cv.mk x0 x1 x2 x3 x4 x5 x6 x7 x8 x9 x10 x11 x12) (.mk 2 tag cR its keys)=false by rw[jT];(try simp only[cv.cI,cv.cD,cZ,da,dp]);simp[dw])
   have ec:(tag==0)=true:=aE
   have ed:(tag != 0)=false:=aG
   have dD:((keys.length:Int)==0)=false:=aI
   have dE:((keys.length:Int) != 0)=true:=aH
   exact yE
  case true =>
  have RR:=hide (show dx (cv.mk x0 x1 x2 x3 x4 x5 x6 x7 x8 x9 x10 x11 x12) (.mk 2 tag cR its keys)=false by rw[jT];(try simp only[cv.cI,cv.cD,cZ,da,dp]);simp[dw])
  have ec:(tag==0)=true:=aE
  have ed:(tag != 0)=false:=aG
  have dD:((keys.length:Int)==0)=false:=aI
  have dE:((keys.length:Int) != 0)=true:=aH
  exact yE
 case pos =>
 by_cases lT:its.length<=40
 case neg =>
  have RR:=hide (show dx (cv.mk x0 x1 x2 x3 x4 x5 x6 x7 x8 x9 x10 x11 x12) (.mk 2 tag cR its keys)=false by rw[jT];(try simp only[cv.cI,cv.cD,cZ,da,dp]);simp[lT])
  have ec:(tag==0)=true:=aE
  have ed:(tag != 0)=false:=aG
  have dD:((keys.length:Int)==0)=true:=aE
  have dE:((keys.length:Int) != 0)=false:=aG
  exact Jd
 case pos =>
 cases fu:allB (cv.mk x0 x1 x2 x3 x4 x5 x6 x7 x8 x9 x10 x11 x12) its
 case false =>
  have RR:=hide (show dx (cv.mk x0 x1 x2 x3 x4 x5 x6 x7 x8 x9 x10 x11 x12) (.mk 2 tag cR its keys)=false by rw[jT];(try simp only[cv.cI,cv.cD,cZ,da,dp]);rw[fu];simp)
  have ec:(tag==0)=true:=aE
  have ed:(tag != 0)=false:=aG
  have dD:((keys.length:Int)==0)=true:=aE
  have dE:((keys.length:Int) != 0)=false:=aG
  exact yE
 case true =>
 have RR:=hide (show dx (cv.mk x0 x1 x2 x3 x4 x5 x6 x7 x8 x9 x10 x11 x12) (.mk 2 tag cR its keys)=true by rw[jT];(try simp only[cv.cI,cv.cD,cZ,da,dp]);(try simp only[cw.v]);simp only[Bool.and_eq_true,decide_eq_true_eq];(repeat' apply And.intro) <;> first | assumption | trivial | exact ar ⟨by omega,by omega⟩ | exact ar aB | rfl | omega)
 have ec:(tag==0)=true:=aE
 have ed:(tag != 0)=false:=aG
 have dD:((keys.length:Int)==0)=true:=aE
 have dE:((keys.length:Int) != 0)=false:=aG
 exact yE
end Go.Proofs.YtjngkknbpfgdcaaGreatDoor
