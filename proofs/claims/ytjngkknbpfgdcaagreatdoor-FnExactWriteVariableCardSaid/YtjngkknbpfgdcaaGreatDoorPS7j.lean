import Derived.Test.YtjngkknbpfgdcaaGreatDoorPr
import Derived.Test.YtjngkknbpfgdcaaGreatDoorPS5bz
set_option linter.unusedVariables false
set_option linter.unusedSimpArgs false
set_option maxRecDepth 100000
set_option maxHeartbeats 8000000
namespace Go.Proofs.YtjngkknbpfgdcaaGreatDoor
open Go.RowKit
--%quiet
theorem Fw (tag cR:Int) (its keys:List cw) (s:cv) (dH:tag=0) (fM:keys.length<=40):ll 41 s (.mk 3 tag cR its keys):=by
 intro S S' q w vs hs hv
 have HS:=hide hs
 obtain⟨Ai,ci,Ak,ck,rfl,_,htag,jt,hRi,hRk⟩:=cz.vals hv
 have lk:=hide hRi
 have HRk:=hide hRk
 have lM:=hRi.1
 have mA:=hRi.2.1
 have hlk:=hRk.1
 have hmk:=hRk.2.1
 simp only[aj]at lM hlk
 unfold maxLen at mA hmk
 clear hRi hRk hv
 obtain⟨x0,x1,x2,x3,x4,x5,x6,x7,x8,x9,x10,x11,x12⟩:=s
 have jF:=hide hs
 obtain⟨A0,c0,A1,c1,A2,c2,A3,c3,A6,c6,A7,c7,A8,c8,hq,e0,e1,e2,e3,e4,e5,e6,e7,e8,e9,e10,e11,e12,gg,hcm0,ga,hcm1,fB,hcm2,fL,fV,fW,fZ,gh,gi,gb,gd,g4,g5,g10,g11,g12,-,HR1,-,-,-,-,-⟩:=cG.opn hs
 clear hs
 have gM:¬q=w.heap.size:=aB
 have hbw:cE w w:=cE.refl w
 by_cases hs1:cR<1
 case pos =>
  exact Jn
 case neg =>
 have ds1:decide (cR<1)=false:=aD
 by_cases hs2:x12<cR
 case pos =>
  exact Jo
 case neg =>
 have ds2:decide (x12<cR)=false:=aD
 cases iZ:oc keys
 case false =>
  by_cases kt:its.length=keys.length+1
  case neg =>
   have RR:=hide (show dx (cv.mk x0 x1 x2 x3 x4 x5 x6 x7 x8 x9 x10 x11 x12) (.mk 3 tag cR its keys)=false by rw[gU];(try simp only[cv.cI,cv.cD,cZ,da,dp]);rw[iZ];simp)
   have ec:(tag==0)=true:=aE
   have ed:(tag != 0)=false:=aG
   exact XG
  case pos =>
  cases fu:allB (cv.mk x0 x1 x2 x3 x4 x5 x6 x7 x8 x9 x10 x11 x12) its
  case false =>
   exact XH
  case true =>
  exact XH
 case true =>
 cases gQ:allB (cv.mk x0 x1 x2 x3 x4 x5 x6 x7 x8 x9 x10 x11 x12) keys
 case false =>
  by_cases kt:its.length=keys.length+1
  case neg =>
   have RR:=hide (show dx (cv.mk x0 x1 x2 x3 x4 x5 x6 x7 x8 x9 x10 x11 x12) (.mk 3 tag cR its keys)=false by rw[gU];(try simp only[cv.cI,cv.cD,cZ,da,dp]);rw[gQ];simp)
   have ec:(tag==0)=true:=aE
   have ed:(tag != 0)=false:=aG
   exact Th
  case pos =>
  cases fu:allB (cv.mk x0 x1 x2 x3 x4 x5 x6 x7 x8 x9 x10 x11 x12) its
  case false =>
   have RR:=hide (show dx (cv.mk x0 x1 x2 x3 x4 x5 x6 x7 x8 x9 x10 x11 x12) (.mk 3 tag cR its keys)=false by rw[gU];(try simp only[cv.cI,cv.cD,cZ,da,dp]);rw[gQ];simp)
   exact Jp
  case true =>
  have RR:=hide (show dx (cv.mk x0 x1 x2 x3 x4 x5 x6 x7 x8 x9 x10 x11 x12) (.mk 3 tag cR its keys)=false by rw[gU];(try simp only[cv.cI,cv.cD,cZ,da,dp]);rw[gQ];simp)
  exact Jp
 case true =>
 by_cases kt:its.length=keys.length+1
 case neg =>
  have RR:=hide (show dx (cv.mk x0 x1 x2 x3 x4 x5 x6 x7 x8 x9 x10 x11 x12) (.mk 3 tag cR its keys)=false by rw[gU];(try simp only[cv.cI,cv.cD,cZ,da,dp]);simp[kt])
  have ec:(tag==0)=true:=aE
  have ed:(tag != 0)=false:=aG
  exact Th
 case pos =>
 cases fu:allB (cv.mk x0 x1 x2 x3 x4 x5 x6 x7 x8 x9 x10 x11 x12) its
 case false =>
  have RR:=hide (show dx (cv.mk x0 x1 x2 x3 x4 x5 x6 x7 x8 x9 x10 x11 x12) (.mk 3 tag cR its keys)=false by rw[gU];(try simp only[cv.cI,cv.cD,cZ,da,dp]);rw[fu];simp)
  exact Jp
 case true =>
 have RR:=hide (show dx (cv.mk x0 x1 x2 x3 x4 x5 x6 x7 x8 x9 x10 x11 x12) (.mk 3 tag cR its keys)=true by rw[gU];(try simp only[cv.cI,cv.cD,cZ,da,dp]);(try simp only[cw.v]);simp only[Bool.and_eq_true,decide_eq_true_eq];(repeat' apply And.intro) <;> first | assumption | trivial | exact ar ⟨by omega,by omega⟩ | exact ar aB | rfl | omega)
 exact Jp
theorem Fz (tag cR:Int) (its keys:List cw) (s:cv) (dH:¬tag=0) (fM:¬keys.length<=40):ll 41 s (.mk 3 tag cR its keys):=by
 intro S S' q w vs hs hv
 have HS:=hide hs
 obtain⟨Ai,ci,Ak,ck,rfl,_,htag,jt,hRi,hRk⟩:=cz.vals hv
 have lk:=hide hRi
 have HRk:=hide hRk
 have lM:=hRi.1
 have mA:=hRi.2.1
 have hlk:=hRk.1
 have hmk:=hRk.2.1
 simp only[aj]at lM hlk
 unfold maxLen at mA hmk
 clear hRi hRk hv
 obtain⟨x0,x1,x2,x3,x4,x5,x6,x7,x8,x9,x10,x11,x12⟩:=s
 have jF:=hide hs
 obtain⟨A0,c0,A1,c1,A2,c2,A3,c3,A6,c6,A7,c7,A8,c8,hq,e0,e1,e2,e3,e4,e5,e6,e7,e8,e9,e10,e11,e12,gg,hcm0,ga,hcm1,fB,hcm2,fL,fV,fW,fZ,gh,gi,gb,gd,g4,g5,g10,g11,g12,-,HR1,-,-,-,-,-⟩:=cG.opn hs
 clear hs
 have gM:¬q=w.heap.size:=aB
 have hbw:cE w w:=cE.refl w
 by_cases hs1:cR<1
 case pos =>
  exact Jn
 case neg =>
 have ds1:decide (cR<1)=false:=aD
 by_cases hs2:x12<cR
 case pos =>
  exact Jo
 case neg =>
 have ds2:decide (x12<cR)=false:=aD
 by_cases kt:its.length=keys.length+1
 case neg =>
  have RR:=hide (show dx (cv.mk x0 x1 x2 x3 x4 x5 x6 x7 x8 x9 x10 x11 x12) (.mk 3 tag cR its keys)=false by rw[gU];(try simp only[cv.cI,cv.cD,cZ,da,dp]);simp[dH])
  have ec:(tag==0)=false:=aI
  have ed:(tag != 0)=true:=aH
  exact XI
 case pos =>
 cases fu:allB (cv.mk x0 x1 x2 x3 x4 x5 x6 x7 x8 x9 x10 x11 x12) its
 case false =>
  have RR:=hide (show dx (cv.mk x0 x1 x2 x3 x4 x5 x6 x7 x8 x9 x10 x11 x12) (.mk 3 tag cR its keys)=false by rw[gU];(try simp only[cv.cI,cv.cD,cZ,da,dp]);simp[dH])
  have ec:(tag==0)=false:=aI
  have ed:(tag != 0)=true:=aH
  exact Ti
 case true =>
 have RR:=hide (show dx (cv.mk x0 x1 x2 x3 x4 x5 x6 x7 x8 x9 x10 x11 x12) (.mk 3 tag cR its keys)=false by rw[gU];(try simp only[cv.cI,cv.cD,cZ,da,dp]);simp[dH])
 have ec:(tag==0)=false:=aI
 have ed:(tag != 0)=true:=aH
 exact Ti
--%quiet
theorem Fy (tag cR:Int) (its keys:List cw) (s:cv) (dH:¬tag=0) (fM:keys.length<=40):ll 41 s (.mk 3 tag cR its keys):=by
 intro S S' q w vs hs hv
 have HS:=hide hs
 obtain⟨Ai,ci,Ak,ck,rfl,_,htag,jt,hRi,hRk⟩:=cz.vals hv
 have lk:=hide hRi
 have HRk:=hide hRk
 have lM:=hRi.1
 have mA:=hRi.2.1
 have hlk:=hRk.1
 have hmk:=hRk.2.1
 simp only[aj]at lM hlk
 unfold maxLen at mA hmk
 clear hRi hRk hv
 obtain⟨x0,x1,x2,x3,x4,x5,x6,x7,x8,x9,x10,x11,x12⟩:=s
 have jF:=hide hs
 obtain⟨A0,c0,A1,c1,A2,c2,A3,c3,A6,c6,A7,c7,A8,c8,hq,e0,e1,e2,e3,e4,e5,e6,e7,e8,e9,e10,e11,e12,gg,hcm0,ga,hcm1,fB,hcm2,fL,fV,fW,fZ,gh,gi,gb,gd,g4,g5,g10,g11,g12,-,HR1,-,-,-,-,-⟩:=cG.opn hs
 clear hs
 have gM:¬q=w.heap.size:=aB
 have hbw:cE w w:=cE.refl w
 by_cases hs1:cR<1
 case pos =>
  exact Jn
 case neg =>
 have ds1:decide (cR<1)=false:=aD
 by_cases hs2:x12<cR
 case pos =>
  exact Jo
 case neg =>
 have ds2:decide (x12<cR)=false:=aD
 cases iZ:oc keys
 case false =>
  by_cases kt:its.length=keys.length+1
  case neg =>
   have RR:=hide (show dx (cv.mk x0 x1 x2 x3 x4 x5 x6 x7 x8 x9 x10 x11 x12) (.mk 3 tag cR its keys)=false by rw[gU];(try simp only[cv.cI,cv.cD,cZ,da,dp]);simp[dH])
   have ec:(tag==0)=false:=aI
   have ed:(tag != 0)=true:=aH
   exact XG
  case pos =>
  cases fu:allB (cv.mk x0 x1 x2 x3 x4 x5 x6 x7 x8 x9 x10 x11 x12) its
  case false =>
   exact XJ
  case true =>
  exact XJ
 case true =>
 cases gQ:allB (cv.mk x0 x1 x2 x3 x4 x5 x6 x7 x8 x9 x10 x11 x12) keys
 case false =>
  by_cases kt:its.length=keys.length+1
  case neg =>
   have RR:=hide (show dx (cv.mk x0 x1 x2 x3 x4 x5 x6 x7 x8 x9 x10 x11 x12) (.mk 3 tag cR its keys)=false by rw[gU];(try simp only[cv.cI,cv.cD,cZ,da,dp]);simp[dH])
   have ec:(tag==0)=false:=aI
   have ed:(tag != 0)=true:=aH
   exact Th
  case pos =>
  cases fu:allB (cv.mk x0 x1 x2 x3 x4 x5 x6 x7 x8 x9 x10 x11 x12) its
  case false =>
   exact Jq
  case true =>
  exact Jq
 case true =>
 by_cases kt:its.length=keys.length+1
 case neg =>
  have RR:=hide (show dx (cv.mk x0 x1 x2 x3 x4 x5 x6 x7 x8 x9 x10 x11 x12) (.mk 3 tag cR its keys)=false by rw[gU];(try simp only[cv.cI,cv.cD,cZ,da,dp]);simp[dH])
  have ec:(tag==0)=false:=aI
  have ed:(tag != 0)=true:=aH
  exact Th
 case pos =>
 cases fu:allB (cv.mk x0 x1 x2 x3 x4 x5 x6 x7 x8 x9 x10 x11 x12) its
 case false =>
  exact Jq
 case true =>
 exact Jq
theorem Fx (tag cR:Int) (its keys:List cw) (s:cv) (dH:tag=0) (fM:¬keys.length<=40):ll 41 s (.mk 3 tag cR its keys):=by
 intro S S' q w vs hs hv
 have HS:=hide hs
 obtain⟨Ai,ci,Ak,ck,rfl,_,htag,jt,hRi,hRk⟩:=cz.vals hv
 have lk:=hide hRi
 have HRk:=hide hRk
 have lM:=hRi.1
 have mA:=hRi.2.1
 have hlk:=hRk.1
 have hmk:=hRk.2.1
 simp only[aj]at lM hlk
 unfold maxLen at mA hmk
 clear hRi hRk hv
 obtain⟨x0,x1,x2,x3,x4,x5,x6,x7,x8,x9,x10,x11,x12⟩:=s
 have jF:=hide hs
 obtain⟨A0,c0,A1,c1,A2,c2,A3,c3,A6,c6,A7,c7,A8,c8,hq,e0,e1,e2,e3,e4,e5,e6,e7,e8,e9,e10,e11,e12,gg,hcm0,ga,hcm1,fB,hcm2,fL,fV,fW,fZ,gh,gi,gb,gd,g4,g5,g10,g11,g12,-,HR1,-,-,-,-,-⟩:=cG.opn hs
 clear hs
 have gM:¬q=w.heap.size:=aB
 have hbw:cE w w:=cE.refl w
 by_cases hs1:cR<1
 case pos =>
  exact Jn
 case neg =>
 have ds1:decide (cR<1)=false:=aD
 by_cases hs2:x12<cR
 case pos =>
  exact Jo
 case neg =>
 have ds2:decide (x12<cR)=false:=aD
 by_cases kt:its.length=keys.length+1
 case neg =>
  have RR:=hide (show dx (cv.mk x0 x1 x2 x3 x4 x5 x6 x7 x8 x9 x10 x11 x12) (.mk 3 tag cR its keys)=false by rw[gU];(try simp only[cv.cI,cv.cD,cZ,da,dp]);simp[fM])
  have ec:(tag==0)=true:=aE
  have ed:(tag != 0)=false:=aG
  exact XI
 case pos =>
 cases fu:allB (cv.mk x0 x1 x2 x3 x4 x5 x6 x7 x8 x9 x10 x11 x12) its
 case false =>
  have RR:=hide (show dx (cv.mk x0 x1 x2 x3 x4 x5 x6 x7 x8 x9 x10 x11 x12) (.mk 3 tag cR its keys)=false by rw[gU];(try simp only[cv.cI,cv.cD,cZ,da,dp]);simp[fM])
  have ec:(tag==0)=true:=aE
  have ed:(tag != 0)=false:=aG
  exact Ti
 case true =>
 have RR:=hide (show dx (cv.mk x0 x1 x2 x3 x4 x5 x6 x7 x8 x9 x10 x11 x12) (.mk 3 tag cR its keys)=false by rw[gU];(try simp only[cv.cI,cv.cD,cZ,da,dp]);simp[fM])
 have ec:(tag==0)=true:=aE
 have ed:(tag != 0)=false:=aG
 exact Ti
end Go.Proofs.YtjngkknbpfgdcaaGreatDoor
