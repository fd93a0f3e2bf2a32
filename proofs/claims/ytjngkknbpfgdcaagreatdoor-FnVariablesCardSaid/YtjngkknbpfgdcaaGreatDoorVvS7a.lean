import Derived.Test.YtjngkknbpfgdcaaGreatDoorVvS5bz
set_option linter.unusedVariables false
set_option linter.unusedSimpArgs false
set_option maxRecDepth 100000
set_option maxHeartbeats 8000000
namespace Go.Proofs.YtjngkknbpfgdcaaGreatDoor
open Go.RowKit
--%quiet
theorem NQ (tag J:Int) (its keys:List R) (s:O):lO 41 s (.mk 1 tag J its keys):=by
 intro S S' q w vs hs hv
 have HS:=I hs
 obtain⟨Ai,ci,Ak,ck,rfl,_,nc,jM,gk,gm⟩:=cr.gK hv
 have lL:=I gk
 have rR:=I gm
 have mn:=gk.1
 have mU:=gk.2.1
 have lI:=gm.1
 have nf:=gm.2.1
 simp only[ar]at mn lI
 unfold maxLen at mU nf
 clear gk gm hv
 obtain⟨x0,x1,x2,x3,x4,x5,x6,x7,x8,x9,F,G,Z⟩:=s
 have js:=I hs
 obtain⟨A0,c0,A1,c1,A2,c2,A3,c3,A6,c6,A7,c7,A8,c8,hq,e0,e1,e2,e3,e4,e5,e6,e7,e8,e9,iE,jc,jd,fj,fm,fa,fb,ew,eL,eK,eV,eX,eY,fp,fq,fc,ff,g4,g5,g10,g11,g12,-,qv,-,-,-,-,-⟩:=cv.j8 hs
 clear hs
 have ga:¬q=w.heap.size:=aF
 have dX:U w w:=U.refl w
 by_cases rZ:¬J=0
 case pos =>
  have RR:=I (show cT (O.mk x0 x1 x2 x3 x4 x5 x6 x7 x8 x9 F G Z) (.mk 1 tag J its keys)=false by rw[kN];show (decide (J=0)&&_)=false;rw[ax rZ];rfl)
  have qy:(J != 0)=true:=aH
  exact sM
 case neg =>
 have qy:(J != 0)=false:=aH
 by_cases dn:tag=0
 case neg =>
  by_cases cU:keys.length=0
  case neg =>
   by_cases mE:its.length<=24
   case neg =>
    have RR:=I (show cT (O.mk x0 x1 x2 x3 x4 x5 x6 x7 x8 x9 F G Z) (.mk 1 tag J its keys)=false by rw[kN];(try simp only[O.cy,O.cu,cJ,cL,cP]);simp[dn])
    have dQ:(tag==0)=false:=aN
    have dR:(tag != 0)=true:=aM
    have cW:((keys.length:Int)==0)=false:=aN
    have cX:((keys.length:Int) != 0)=true:=aM
    exact KR
   case pos =>
   cases eS:fS (O.mk x0 x1 x2 x3 x4 x5 x6 x7 x8 x9 F G Z) its
   case false =>
    have RR:=I (show cT (O.mk x0 x1 x2 x3 x4 x5 x6 x7 x8 x9 F G Z) (.mk 1 tag J its keys)=false by rw[kN];(try simp only[O.cy,O.cu,cJ,cL,cP]);simp[dn])
    have dQ:(tag==0)=false:=aN
    have dR:(tag != 0)=true:=aM
    have cW:((keys.length:Int)==0)=false:=aN
    have cX:((keys.length:Int) != 0)=true:=aM
    exact zK
   case true =>
   have RR:=I (show cT (O.mk x0 x1 x2 x3 x4 x5 x6 x7 x8 x9 F G Z) (.mk 1 tag J its keys)=false by rw[kN];(try simp only[O.cy,O.cu,cJ,cL,cP]);simp[dn])
   have dQ:(tag==0)=false:=aN
   have dR:(tag != 0)=true:=aM
   have cW:((keys.length:Int)==0)=false:=aN
   have cX:((keys.length:Int) != 0)=true:=aM
   exact zK
  case pos =>
  by_cases mE:its.length<=24
  case neg =>
   have RR:=I (show cT (O.mk x0 x1 x2 x3 x4 x5 x6 x7 x8 x9 F G Z) (.mk 1 tag J its keys)=false by rw[kN];(try simp only[O.cy,O.cu,cJ,cL,cP]);simp[dn])
   have dQ:(tag==0)=false:=aN
   have dR:(tag != 0)=true:=aM
   have cW:((keys.length:Int)==0)=true:=aK
   have cX:((keys.length:Int) != 0)=false:=aL
   exact KR
  case pos =>
  cases eS:fS (O.mk x0 x1 x2 x3 x4 x5 x6 x7 x8 x9 F G Z) its
  case false =>
   have RR:=I (show cT (O.mk x0 x1 x2 x3 x4 x5 x6 x7 x8 x9 F G Z) (.mk 1 tag J its keys)=false by rw[kN];(try simp only[O.cy,O.cu,cJ,cL,cP]);simp[dn])
   have dQ:(tag==0)=false:=aN
   have dR:(tag != 0)=true:=aM
   have cW:((keys.length:Int)==0)=true:=aK
   have cX:((keys.length:Int) != 0)=false:=aL
   exact zK
  case true =>
  have RR:=I (show cT (O.mk x0 x1 x2 x3 x4 x5 x6 x7 x8 x9 F G Z) (.mk 1 tag J its keys)=false by rw[kN];(try simp only[O.cy,O.cu,cJ,cL,cP]);simp[dn])
  have dQ:(tag==0)=false:=aN
  have dR:(tag != 0)=true:=aM
  have cW:((keys.length:Int)==0)=true:=aK
  have cX:((keys.length:Int) != 0)=false:=aL
  exact zK
 case pos =>
 by_cases cU:keys.length=0
 case neg =>
  by_cases mE:its.length<=24
  case neg =>
   have RR:=I (show cT (O.mk x0 x1 x2 x3 x4 x5 x6 x7 x8 x9 F G Z) (.mk 1 tag J its keys)=false by rw[kN];(try simp only[O.cy,O.cu,cJ,cL,cP]);simp[cU])
   have dQ:(tag==0)=true:=aK
   have dR:(tag != 0)=false:=aL
   have cW:((keys.length:Int)==0)=false:=aN
   have cX:((keys.length:Int) != 0)=true:=aM
   exact KR
  case pos =>
  cases eS:fS (O.mk x0 x1 x2 x3 x4 x5 x6 x7 x8 x9 F G Z) its
  case false =>
   have RR:=I (show cT (O.mk x0 x1 x2 x3 x4 x5 x6 x7 x8 x9 F G Z) (.mk 1 tag J its keys)=false by rw[kN];(try simp only[O.cy,O.cu,cJ,cL,cP]);simp[cU])
   have dQ:(tag==0)=true:=aK
   have dR:(tag != 0)=false:=aL
   have cW:((keys.length:Int)==0)=false:=aN
   have cX:((keys.length:Int) != 0)=true:=aM
   exact zK
  case true =>
  have RR:=I (show cT (O.mk x0 x1 x2 x3 x4 x5 x6 x7 x8 x9 F G Z) (.mk 1 tag J its keys)=false by rw[kN];(try simp only[O.cy,O.cu,cJ,cL,cP]);simp[cU])
  have dQ:(tag==0)=true:=aK
  have dR:(tag != 0)=false:=aL
  have cW:((keys.length:Int)==0)=false:=aN
  have cX:((keys.length:Int) != 0)=true:=aM
  exact zK
 case pos =>
 by_cases mE:its.length<=24
 case neg =>
  have RR:=I (show cT (O.mk x0 x1 x2 x3 x4 x5 x6 x7 x8 x9 F G Z) (.mk 1 tag J its keys)=false by rw[kN];(try simp only[O.cy,O.cu,cJ,cL,cP]);simp[mE])
  have dQ:(tag==0)=true:=aK
  have dR:(tag != 0)=false:=aL
  have cW:((keys.length:Int)==0)=true:=aK
  have cX:((keys.length:Int) != 0)=false:=aL
  exact KR
 case pos =>
 cases eS:fS (O.mk x0 x1 x2 x3 x4 x5 x6 x7 x8 x9 F G Z) its
 case false =>
  have RR:=I (show cT (O.mk x0 x1 x2 x3 x4 x5 x6 x7 x8 x9 F G Z) (.mk 1 tag J its keys)=false by rw[kN];(try simp only[O.cy,O.cu,cJ,cL,cP]);rw[eS];simp)
  have dQ:(tag==0)=true:=aK
  have dR:(tag != 0)=false:=aL
  have cW:((keys.length:Int)==0)=true:=aK
  have cX:((keys.length:Int) != 0)=false:=aL
  exact zK
 case true =>
 have RR:=I (show cT (O.mk x0 x1 x2 x3 x4 x5 x6 x7 x8 x9 F G Z) (.mk 1 tag J its keys)=true by rw[kN];(try simp only[O.cy,O.cu,cJ,cL,cP]);(try simp only[R.v]);simp only[Bool.and_eq_true,decide_eq_true_eq];(repeat' apply And.intro) <;> first | assumption | trivial | exact ay ⟨by omega,by omega⟩ | exact ay aF | rfl | omega)
 have dQ:(tag==0)=true:=aK
 have dR:(tag != 0)=false:=aL
 have cW:((keys.length:Int)==0)=true:=aK
 have cX:((keys.length:Int) != 0)=false:=aL
 exact zK
theorem NR (tag J:Int) (its keys:List R) (s:O):lO 41 s (.mk 2 tag J its keys):=by
 intro S S' q w vs hs hv
 have HS:=I hs
 obtain⟨Ai,ci,Ak,ck,rfl,_,nc,jM,gk,gm⟩:=cr.gK hv
 have lL:=I gk
 have rR:=I gm
 have mn:=gk.1
 have mU:=gk.2.1
 have lI:=gm.1
 have nf:=gm.2.1
 simp only[ar]at mn lI
 unfold maxLen at mU nf
 clear gk gm hv
 obtain⟨x0,x1,x2,x3,x4,x5,x6,x7,x8,x9,F,G,Z⟩:=s
 have js:=I hs
 obtain⟨A0,c0,A1,c1,A2,c2,A3,c3,A6,c6,A7,c7,A8,c8,hq,e0,e1,e2,e3,e4,e5,e6,e7,e8,e9,iE,jc,jd,fj,fm,fa,fb,ew,eL,eK,eV,eX,eY,fp,fq,fc,ff,g4,g5,g10,g11,g12,-,qv,-,-,-,-,-⟩:=cv.j8 hs
 clear hs
 have ga:¬q=w.heap.size:=aF
 have dX:U w w:=U.refl w
 by_cases rZ:J<1
 case pos =>
  have RR:=I (show cT (O.mk x0 x1 x2 x3 x4 x5 x6 x7 x8 x9 F G Z) (.mk 2 tag J its keys)=false by rw[kq];show (decide (1<=J/\J<=Z)&&_)=false;rw[ax (show ¬(1<=J/\J<=Z) by omega)];rfl)
  have qy:decide (J<1)=true:=aH
  exact sM
 case neg =>
 have qy:decide (J<1)=false:=aH
 by_cases Ba:Z<J
 case pos =>
  have RR:=I (show cT (O.mk x0 x1 x2 x3 x4 x5 x6 x7 x8 x9 F G Z) (.mk 2 tag J its keys)=false by rw[kq];show (decide (1<=J/\J<=Z)&&_)=false;rw[ax (show ¬(1<=J/\J<=Z) by omega)];rfl)
  have zI:decide (Z<J)=true:=aH
  exact sM
 case neg =>
 have zI:decide (Z<J)=false:=aH
 by_cases dn:tag=0
 case neg =>
  by_cases cU:keys.length=0
  case neg =>
   by_cases mE:its.length<=40
   case neg =>
    have RR:=I (show cT (O.mk x0 x1 x2 x3 x4 x5 x6 x7 x8 x9 F G Z) (.mk 2 tag J its keys)=false by rw[kq];(try simp only[O.cy,O.cu,cJ,cL,cP]);simp[dn])
    have dQ:(tag==0)=false:=aN
    have dR:(tag != 0)=true:=aM
    have cW:((keys.length:Int)==0)=false:=aN
    have cX:((keys.length:Int) != 0)=true:=aM
    exact KS
   case pos =>
   cases eS:fS (O.mk x0 x1 x2 x3 x4 x5 x6 x7 x8 x9 F G Z) its
   case false =>
    have RR:=I (show cT (O.mk x0 x1 x2 x3 x4 x5 x6 x7 x8 x9 F G Z) (.mk 2 tag J its keys)=false by rw[kq];(try simp only[O.cy,O.cu,cJ,cL,cP]);simp[dn])
    have dQ:(tag==0)=false:=aN
    have dR:(tag != 0)=true:=aM
    have cW:((keys.length:Int)==0)=false:=aN
    have cX:((keys.length:Int) != 0)=true:=aM
    exact zL
   case true =>
   have RR:=I (show cT (O.mk x0 x1 x2 x3 x4 x5 x6 x7 x8 x9 F G Z) (.mk 2 tag J its keys)=false by rw[kq];(try simp only[O.cy,O.cu,cJ,cL,cP]);simp[dn])
   have dQ:(tag==0)=false:=aN
   have dR:(tag != 0)=true:=aM
   have cW:((keys.length:Int)==0)=false:=aN
   have cX:((keys.length:Int) != 0)=true:=aM
   exact zL
  case pos =>
  by_cases mE:its.length<=40
  case neg =>
   have RR:=I (show cT (O.mk x0 x1 x2 x3 x4 x5 x6 x7 x8 x9 F G Z) (.mk 2 tag J its keys)=false by rw[kq];(try simp only[O.cy,O.cu,cJ,cL,cP]);simp[dn])
   have dQ:(tag==0)=false:=aN
   have dR:(tag != 0)=true:=aM
   have cW:((keys.length:Int)==0)=true:=aK
   have cX:((keys.length:Int) != 0)=false:=aL
   exact KS
  case pos =>
  cases eS:fS (O.mk x0 x1 x2 x3 x4 x5 x6 x7 x8 x9 F G Z) its
  case false =>
   have RR:=I (show cT (O.mk x0 x1 x2 x3 x4 x5 x6 x7 x8 x9 F G Z) (.mk 2 tag J its keys)=false by rw[kq];(try simp only[O.cy,O.cu,cJ,cL,cP]);simp[dn])
   have dQ:(tag==0)=false:=aN
   have dR:(tag != 0)=true:=aM
   have cW:((keys.length:Int)==0)=true:=aK
   have cX:((keys.length:Int) != 0)=false:=aL
   exact zL
  case true =>
  have RR:=I (show cT (O.mk x0 x1 x2 x3 x4 x5 x6 x7 x8 x9 F G Z) (.mk 2 tag J its keys)=false by rw[kq];(try simp only[O.cy,O.cu,cJ,cL,cP]);simp[dn])
  have dQ:(tag==0)=false:=aN
  have dR:(tag != 0)=true:=aM
  have cW:((keys.length:Int)==0)=true:=aK
  have cX:((keys.length:Int) != 0)=false:=aL
  exact zL
 case pos =>
 by_cases cU:keys.length=0
 case neg =>
  by_cases mE:its.length<=40
  case neg =>
   have RR:=I (show cT (O.mk x0 x1 x2 x3 x4 x5 x6 x7 x8 x9 F G Z) (.mk 2 tag J its keys)=false by rw[kq];(try simp only[O.cy,O.cu,cJ,cL,cP]);simp[cU])
   have dQ:(tag==0)=true:=aK
   have dR:(tag != 0)=false:=aL
   have cW:((keys.length:Int)==0)=false:=aN
   have cX:((keys.length:Int) != 0)=true:=aM
   exact KS
  case pos =>
  cases eS:fS (O.mk x0 x1 x2 x3 x4 x5 x6 x7 x8 x9 F G Z) its
  case false =>
   have RR:=I (show cT (O.mk x0 x1 x2 x3 x4 x5 x6 x7 x8 x9 F G Z) (.mk 2 tag J its keys)=false by rw[kq];(try simp only[O.cy,O.cu,cJ,cL,cP]);simp[cU])
   have dQ:(tag==0)=true:=aK
   have dR:(tag != 0)=false:=aL
   have cW:((keys.length:Int)==0)=false:=aN
   have cX:((keys.length:Int) != 0)=true:=aM
   exact zL
  case true =>
  have RR:=I (show cT (O.mk x0 x1 x2 x3 x4 x5 x6 x7 x8 x9 F G Z) (.mk 2 tag J its keys)=false by rw[kq];(try simp only[O.cy,O.cu,cJ,cL,cP]);simp[cU])
  have dQ:(tag==0)=true:=aK
  have dR:(tag != 0)=false:=aL
  have cW:((keys.length:Int)==0)=false:=aN
  have cX:((keys.length:Int) != 0)=true:=aM
  exact zL
 case pos =>
 by_cases mE:its.length<=40
 case neg =>
  have RR:=I (show cT (O.mk x0 x1 x2 x3 x4 x5 x6 x7 x8 x9 F G Z) (.mk 2 tag J its keys)=false by rw[kq];(try simp only[O.cy,O.cu,cJ,cL,cP]);simp[mE])
  have dQ:(tag==0)=true:=aK
  have dR:(tag != 0)=false:=aL
  have cW:((keys.length:Int)==0)=true:=aK
  have cX:((keys.length:Int) != 0)=false:=aL
  exact KS
 case pos =>
 cases eS:fS (O.mk x0 x1 x2 x3 x4 x5 x6 x7 x8 x9 F G Z) its
 case false =>
  have RR:=I (show cT (O.mk x0 x1 x2 x3 x4 x5 x6 x7 x8 x9 F G Z) (.mk 2 tag J its keys)=false by rw[kq];(try simp only[O.cy,O.cu,cJ,cL,cP]);rw[eS];simp)
  have dQ:(tag==0)=true:=aK
  have dR:(tag != 0)=false:=aL
  have cW:((keys.length:Int)==0)=true:=aK
  have cX:((keys.length:Int) != 0)=false:=aL
  exact zL
 case true =>
 have RR:=I (show cT (O.mk x0 x1 x2 x3 x4 x5 x6 x7 x8 x9 F G Z) (.mk 2 tag J its keys)=true by rw[kq];(try simp only[O.cy,O.cu,cJ,cL,cP]);(try simp only[R.v]);simp only[Bool.and_eq_true,decide_eq_true_eq];(repeat' apply And.intro) <;> first | assumption | trivial | exact ay ⟨by omega,by omega⟩ | exact ay aF | rfl | omega)
 have dQ:(tag==0)=true:=aK
 have dR:(tag != 0)=false:=aL
 have cW:((keys.length:Int)==0)=true:=aK
 have cX:((keys.length:Int) != 0)=false:=aL
 exact zL
end Go.Proofs.YtjngkknbpfgdcaaGreatDoor
