import Derived.Test.YtjngkknbpfgdcaaGreatDoorVvS5bz
set_option linter.unusedVariables false
set_option linter.unusedSimpArgs false
set_option maxRecDepth 100000
set_option maxHeartbeats 8000000
namespace Go.Proofs.YtjngkknbpfgdcaaGreatDoor
open Go.RowKit
--%quiet
theorem NS (tag J:Int) (its keys:List R) (s:O):lO 41 s (.mk 4 tag J its keys):=by
 intro S S' q w vs hs hv
 have HS:=I hs
 obtain⟨Ai,ci,Ak,ck,rfl,_,nc,jM,gk,gm⟩:=cr.gK hv
 have lL:=I gk
 have rR:=I gm
 have mn:=gk.1
 have mU:=gk.2.1
 have lI:=gm.1
 have nf:=gm.2.1
 simp only[ar]at mn lI
 unfold maxLen at mU nf
 clear gk gm hv
 obtain⟨x0,x1,x2,x3,x4,x5,x6,x7,x8,x9,F,G,Z⟩:=s
 have js:=I hs
 obtain⟨A0,c0,A1,c1,A2,c2,A3,c3,A6,c6,A7,c7,A8,c8,hq,e0,e1,e2,e3,e4,e5,e6,e7,e8,e9,iE,jc,jd,fj,fm,fa,fb,ew,eL,eK,eV,eX,eY,fp,fq,fc,ff,g4,g5,g10,g11,g12,-,qv,-,-,-,-,-⟩:=cv.j8 hs
 clear hs
 have ga:¬q=w.heap.size:=aF
 have dX:U w w:=U.refl w
 by_cases rZ:J<1
 case pos =>
  have RR:=I (show cT (O.mk x0 x1 x2 x3 x4 x5 x6 x7 x8 x9 F G Z) (.mk 4 tag J its keys)=false by rw[jK];show (decide (1<=J/\J<=Z)&&_)=false;rw[ax (show ¬(1<=J/\J<=Z) by omega)];rfl)
  have qy:decide (J<1)=true:=aH
  exact sM
 case neg =>
 have qy:decide (J<1)=false:=aH
 by_cases Ba:Z<J
 case pos =>
  have RR:=I (show cT (O.mk x0 x1 x2 x3 x4 x5 x6 x7 x8 x9 F G Z) (.mk 4 tag J its keys)=false by rw[jK];show (decide (1<=J/\J<=Z)&&_)=false;rw[ax (show ¬(1<=J/\J<=Z) by omega)];rfl)
  have zI:decide (Z<J)=true:=aH
  exact sM
 case neg =>
 have zI:decide (Z<J)=false:=aH
 by_cases dn:tag=0
 case neg =>
  by_cases fH:keys.length<=40
  case neg =>
   by_cases mY:its.length=0
   case neg =>
    have RR:=I (show cT (O.mk x0 x1 x2 x3 x4 x5 x6 x7 x8 x9 F G Z) (.mk 4 tag J its keys)=false by rw[jK];(try simp only[O.cy,O.cu,cJ,cL,cP]);simp[dn])
    have dQ:(tag==0)=false:=aN
    have dR:(tag != 0)=true:=aM
    exact YJ
   case pos =>
   have RR:=I (show cT (O.mk x0 x1 x2 x3 x4 x5 x6 x7 x8 x9 F G Z) (.mk 4 tag J its keys)=false by rw[jK];(try simp only[O.cy,O.cu,cJ,cL,cP]);simp[dn])
   have dQ:(tag==0)=false:=aN
   have dR:(tag != 0)=true:=aM
   exact YK
  case pos =>
  cases ju:mv keys
  case false =>
   by_cases mY:its.length=0
   case neg =>
    have RR:=I (show cT (O.mk x0 x1 x2 x3 x4 x5 x6 x7 x8 x9 F G Z) (.mk 4 tag J its keys)=false by rw[jK];(try simp only[O.cy,O.cu,cJ,cL,cP]);simp[dn])
    have dQ:(tag==0)=false:=aN
    have dR:(tag != 0)=true:=aM
    exact YM
   case pos =>
   have RR:=I (show cT (O.mk x0 x1 x2 x3 x4 x5 x6 x7 x8 x9 F G Z) (.mk 4 tag J its keys)=false by rw[jK];(try simp only[O.cy,O.cu,cJ,cL,cP]);simp[dn])
   have dQ:(tag==0)=false:=aN
   have dR:(tag != 0)=true:=aM
   exact YN
  case true =>
  cases ib:fS (O.mk x0 x1 x2 x3 x4 x5 x6 x7 x8 x9 F G Z) keys
  case false =>
   exact YO
  case true =>
  exact YO
 case pos =>
 by_cases fH:keys.length<=40
 case neg =>
  by_cases mY:its.length=0
  case neg =>
   have RR:=I (show cT (O.mk x0 x1 x2 x3 x4 x5 x6 x7 x8 x9 F G Z) (.mk 4 tag J its keys)=false by rw[jK];(try simp only[O.cy,O.cu,cJ,cL,cP]);simp[fH])
   have dQ:(tag==0)=true:=aK
   have dR:(tag != 0)=false:=aL
   exact YJ
  case pos =>
  have RR:=I (show cT (O.mk x0 x1 x2 x3 x4 x5 x6 x7 x8 x9 F G Z) (.mk 4 tag J its keys)=false by rw[jK];(try simp only[O.cy,O.cu,cJ,cL,cP]);simp[fH])
  have dQ:(tag==0)=true:=aK
  have dR:(tag != 0)=false:=aL
  exact YK
 case pos =>
 cases ju:mv keys
 case false =>
  by_cases mY:its.length=0
  case neg =>
   have RR:=I (show cT (O.mk x0 x1 x2 x3 x4 x5 x6 x7 x8 x9 F G Z) (.mk 4 tag J its keys)=false by rw[jK];(try simp only[O.cy,O.cu,cJ,cL,cP]);rw[ju];simp)
   have dQ:(tag==0)=true:=aK
   have dR:(tag != 0)=false:=aL
   exact YM
  case pos =>
  have RR:=I (show cT (O.mk x0 x1 x2 x3 x4 x5 x6 x7 x8 x9 F G Z) (.mk 4 tag J its keys)=false by rw[jK];(try simp only[O.cy,O.cu,cJ,cL,cP]);rw[ju];simp)
  have dQ:(tag==0)=true:=aK
  have dR:(tag != 0)=false:=aL
  exact YN
 case true =>
 cases ib:fS (O.mk x0 x1 x2 x3 x4 x5 x6 x7 x8 x9 F G Z) keys
 case false =>
  by_cases mY:its.length=0
  case neg =>
   have RR:=I (show cT (O.mk x0 x1 x2 x3 x4 x5 x6 x7 x8 x9 F G Z) (.mk 4 tag J its keys)=false by rw[jK];(try simp only[O.cy,O.cu,cJ,cL,cP]);rw[ib];simp)
   have dQ:(tag==0)=true:=aK
   have dR:(tag != 0)=false:=aL
   exact YP
  case pos =>
  have RR:=I (show cT (O.mk x0 x1 x2 x3 x4 x5 x6 x7 x8 x9 F G Z) (.mk 4 tag J its keys)=false by rw[jK];(try simp only[O.cy,O.cu,cJ,cL,cP]);rw[ib];simp)
  have dQ:(tag==0)=true:=aK
  have dR:(tag != 0)=false:=aL
  exact YQ
 case true =>
 by_cases mY:its.length=0
 case neg =>
  have RR:=I (show cT (O.mk x0 x1 x2 x3 x4 x5 x6 x7 x8 x9 F G Z) (.mk 4 tag J its keys)=false by rw[jK];(try simp only[O.cy,O.cu,cJ,cL,cP]);simp[mY])
  have dQ:(tag==0)=true:=aK
  have dR:(tag != 0)=false:=aL
  exact YP
 case pos =>
 have RR:=I (show cT (O.mk x0 x1 x2 x3 x4 x5 x6 x7 x8 x9 F G Z) (.mk 4 tag J its keys)=true by rw[jK];(try simp only[O.cy,O.cu,cJ,cL,cP]);(try simp only[R.v]);simp only[Bool.and_eq_true,decide_eq_true_eq];(repeat' apply And.intro) <;> first | assumption | trivial | exact ay ⟨by omega,by omega⟩ | exact ay aF | rfl | omega)
 have dQ:(tag==0)=true:=aK
 have dR:(tag != 0)=false:=aL
 exact YQ
theorem NT (tag J:Int) (its keys:List R) (s:O):lO 41 s (.mk 5 tag J its keys):=by
 intro S S' q w vs hs hv
 have HS:=I hs
 obtain⟨Ai,ci,Ak,ck,rfl,_,nc,jM,gk,gm⟩:=cr.gK hv
 have lL:=I gk
 have rR:=I gm
 have mn:=gk.1
 have mU:=gk.2.1
 have lI:=gm.1
 have nf:=gm.2.1
 simp only[ar]at mn lI
 unfold maxLen at mU nf
 clear gk gm hv
 obtain⟨x0,x1,x2,x3,x4,x5,x6,x7,x8,x9,F,G,Z⟩:=s
 have js:=I hs
 obtain⟨A0,c0,A1,c1,A2,c2,A3,c3,A6,c6,A7,c7,A8,c8,hq,e0,e1,e2,e3,e4,e5,e6,e7,e8,e9,iE,jc,jd,fj,fm,fa,fb,ew,eL,eK,eV,eX,eY,fp,fq,fc,ff,g4,g5,g10,g11,g12,-,qv,-,-,-,-,-⟩:=cv.j8 hs
 clear hs
 have ga:¬q=w.heap.size:=aF
 have dX:U w w:=U.refl w
 by_cases rZ:J<1
 case pos =>
  have RR:=I (show cT (O.mk x0 x1 x2 x3 x4 x5 x6 x7 x8 x9 F G Z) (.mk 5 tag J its keys)=false by rw[oT];show (decide (1<=J/\J<=Z)&&_)=false;rw[ax (show ¬(1<=J/\J<=Z) by omega)];rfl)
  have qy:decide (J<1)=true:=aH
  exact sM
 case neg =>
 have qy:decide (J<1)=false:=aH
 by_cases Ba:Z<J
 case pos =>
  have RR:=I (show cT (O.mk x0 x1 x2 x3 x4 x5 x6 x7 x8 x9 F G Z) (.mk 5 tag J its keys)=false by rw[oT];show (decide (1<=J/\J<=Z)&&_)=false;rw[ax (show ¬(1<=J/\J<=Z) by omega)];rfl)
  have zI:decide (Z<J)=true:=aH
  exact sM
 case neg =>
 have zI:decide (Z<J)=false:=aH
 by_cases uh:0<=tag
 case neg =>
  by_cases cU:keys.length=0
  case neg =>
   have RR:=I (show cT (O.mk x0 x1 x2 x3 x4 x5 x6 x7 x8 x9 F G Z) (.mk 5 tag J its keys)=false by rw[oT];(try simp only[O.cy,O.cu,cJ,cL,cP]);simp[uh])
   have Cl:decide (0<=tag)=false:=ax aF
   have cW:((keys.length:Int)==0)=false:=aN
   have cX:((keys.length:Int) != 0)=true:=aM
   clear uh cU
   exact sM
  case pos =>
  have RR:=I (show cT (O.mk x0 x1 x2 x3 x4 x5 x6 x7 x8 x9 F G Z) (.mk 5 tag J its keys)=false by rw[oT];(try simp only[O.cy,O.cu,cJ,cL,cP]);simp[uh])
  have Cl:decide (0<=tag)=false:=ax aF
  have cW:((keys.length:Int)==0)=true:=aK
  have cX:((keys.length:Int) != 0)=false:=aL
  clear uh cU
  exact sM
 case pos =>
 by_cases ma:tag<(x1.length:Int)
 case neg =>
  by_cases cU:keys.length=0
  case neg =>
   have RR:=I (show cT (O.mk x0 x1 x2 x3 x4 x5 x6 x7 x8 x9 F G Z) (.mk 5 tag J its keys)=false by rw[oT];(try simp only[O.cy,O.cu,cJ,cL,cP]);simp[ma])
   have Cl:decide (0<=tag)=true:=ay aF
   have jw:decide (tag<(x1.length:Int))=false:=ax aF
   have cW:((keys.length:Int)==0)=false:=aN
   have cX:((keys.length:Int) != 0)=true:=aM
   clear uh ma cU
   exact sM
  case pos =>
  have RR:=I (show cT (O.mk x0 x1 x2 x3 x4 x5 x6 x7 x8 x9 F G Z) (.mk 5 tag J its keys)=false by rw[oT];(try simp only[O.cy,O.cu,cJ,cL,cP]);simp[ma])
  have Cl:decide (0<=tag)=true:=ay aF
  have jw:decide (tag<(x1.length:Int))=false:=ax aF
  have cW:((keys.length:Int)==0)=true:=aK
  have cX:((keys.length:Int) != 0)=false:=aL
  clear uh ma cU
  exact sM
 case pos =>
 obtain⟨m,hm⟩:=Int.eq_ofNat_of_zero_le uh
 have jP:m<x1.length:=aF
 (obtain⟨b4,o4,iq,fV,iu,abC,abD,Vw,hl4,LH,Yb,HV4,QA,Hl,QB,Mx,My,Mz⟩:=cw.el qv.out m jP dX;subst Vw)
 have Fz:¬b4=w.heap.size:=aF
 have hx:(x1.getD tag.toNat (.mk ByteArray.empty [] 0)).fields=fV:=by
  exact YD
 have hf4:=Hl.out.1
 have abE:=Hl.out.2.1
 simp only[ar]at hf4
 unfold maxLen at abE
 by_cases FV:its.length=fV.length
 case neg =>
  by_cases cU:keys.length=0
  case neg =>
   have RR:=I (show cT (O.mk x0 x1 x2 x3 x4 x5 x6 x7 x8 x9 F G Z) (.mk 5 tag J its keys)=false by rw[pg (O.mk x0 x1 x2 x3 x4 x5 x6 x7 x8 x9 F G Z) _ _ _ _ fV hx];(try simp only[O.cy,O.cu]);simp[FV])
   have Cl:decide (0<=tag)=true:=ay aF
   have jw:decide (tag<(x1.length:Int))=true:=ay aF
   have Ry:((its.length:Int)==(fV.length:Int))=false:=aN
   clear hx
   subst hm
   have cW:((keys.length:Int)==0)=false:=aN
   have cX:((keys.length:Int) != 0)=true:=aM
   clear uh ma FV cU
   exact sM
  case pos =>
  have RR:=I (show cT (O.mk x0 x1 x2 x3 x4 x5 x6 x7 x8 x9 F G Z) (.mk 5 tag J its keys)=false by rw[pg (O.mk x0 x1 x2 x3 x4 x5 x6 x7 x8 x9 F G Z) _ _ _ _ fV hx];(try simp only[O.cy,O.cu]);simp[FV])
  have Cl:decide (0<=tag)=true:=ay aF
  have jw:decide (tag<(x1.length:Int))=true:=ay aF
  have Ry:((its.length:Int)==(fV.length:Int))=false:=aN
  clear hx
  subst hm
  have cW:((keys.length:Int)==0)=true:=aK
  have cX:((keys.length:Int) != 0)=false:=aL
  clear uh ma FV cU
  exact sM
 case pos =>
 cases eS:fS (O.mk x0 x1 x2 x3 x4 x5 x6 x7 x8 x9 F G Z) its
 case false =>
  by_cases cU:keys.length=0
  case neg =>
   have RR:=I (show cT (O.mk x0 x1 x2 x3 x4 x5 x6 x7 x8 x9 F G Z) (.mk 5 tag J its keys)=false by rw[pg (O.mk x0 x1 x2 x3 x4 x5 x6 x7 x8 x9 F G Z) _ _ _ _ fV hx];(try simp only[O.cy,O.cu]);rw[eS];simp)
   exact YR
  case pos =>
  have RR:=I (show cT (O.mk x0 x1 x2 x3 x4 x5 x6 x7 x8 x9 F G Z) (.mk 5 tag J its keys)=false by rw[pg (O.mk x0 x1 x2 x3 x4 x5 x6 x7 x8 x9 F G Z) _ _ _ _ fV hx];(try simp only[O.cy,O.cu]);rw[eS];simp)
  exact YS
 case true =>
 by_cases cU:keys.length=0
 case neg =>
  have RR:=I (show cT (O.mk x0 x1 x2 x3 x4 x5 x6 x7 x8 x9 F G Z) (.mk 5 tag J its keys)=false by rw[pg (O.mk x0 x1 x2 x3 x4 x5 x6 x7 x8 x9 F G Z) _ _ _ _ fV hx];(try simp only[O.cy,O.cu]);simp[cU])
  exact YR
 case pos =>
 have RR:=I (show cT (O.mk x0 x1 x2 x3 x4 x5 x6 x7 x8 x9 F G Z) (.mk 5 tag J its keys)=true by rw[pg (O.mk x0 x1 x2 x3 x4 x5 x6 x7 x8 x9 F G Z) _ _ _ _ fV hx];(try simp only[O.cy,O.cu,cJ,cL,cP]);(try simp only[R.v]);simp only[Bool.and_eq_true,decide_eq_true_eq];(repeat' apply And.intro) <;> first | assumption | trivial | exact ay ⟨by omega,by omega⟩ | exact ay aF | rfl | omega)
 exact YS
theorem NU (tag J:Int) (its keys:List R) (s:O):lO 41 s (.mk 7 tag J its keys):=by
 intro S S' q w vs hs hv
 have HS:=I hs
 obtain⟨Ai,ci,Ak,ck,rfl,_,nc,jM,gk,gm⟩:=cr.gK hv
 have lL:=I gk
 have rR:=I gm
 have mn:=gk.1
 have mU:=gk.2.1
 have lI:=gm.1
 have nf:=gm.2.1
 simp only[ar]at mn lI
 unfold maxLen at mU nf
 clear gk gm hv
 obtain⟨x0,x1,x2,x3,x4,x5,x6,x7,x8,x9,F,G,Z⟩:=s
 have js:=I hs
 obtain⟨A0,c0,A1,c1,A2,c2,A3,c3,A6,c6,A7,c7,A8,c8,hq,e0,e1,e2,e3,e4,e5,e6,e7,e8,e9,iE,jc,jd,fj,fm,fa,fb,ew,eL,eK,eV,eX,eY,fp,fq,fc,ff,g4,g5,g10,g11,g12,-,qv,-,-,-,-,-⟩:=cv.j8 hs
 clear hs
 have ga:¬q=w.heap.size:=aF
 have dX:U w w:=U.refl w
 by_cases rZ:J<1
 case pos =>
  have RR:=I (show cT (O.mk x0 x1 x2 x3 x4 x5 x6 x7 x8 x9 F G Z) (.mk 7 tag J its keys)=false by rw[rq];show (decide (1<=J/\J<=Z)&&_)=false;rw[ax (show ¬(1<=J/\J<=Z) by omega)];rfl)
  have qy:decide (J<1)=true:=aH
  exact sM
 case neg =>
 have qy:decide (J<1)=false:=aH
 by_cases Ba:Z<J
 case pos =>
  have RR:=I (show cT (O.mk x0 x1 x2 x3 x4 x5 x6 x7 x8 x9 F G Z) (.mk 7 tag J its keys)=false by rw[rq];show (decide (1<=J/\J<=Z)&&_)=false;rw[ax (show ¬(1<=J/\J<=Z) by omega)];rfl)
  have zI:decide (Z<J)=true:=aH
  exact sM
 case neg =>
 have zI:decide (Z<J)=false:=aH
 by_cases cU:keys.length=0
 case neg =>
  cases zJ:ez (O.mk x0 x1 x2 x3 x4 x5 x6 x7 x8 x9 F G Z) tag its
  case false =>
   exact YT
  case true =>
  exact YT
 case pos =>
 cases zJ:ez (O.mk x0 x1 x2 x3 x4 x5 x6 x7 x8 x9 F G Z) tag its
 case false =>
  have RR:=I (show cT (O.mk x0 x1 x2 x3 x4 x5 x6 x7 x8 x9 F G Z) (.mk 7 tag J its keys)=false by rw[rq];(try simp only[O.cy,O.cu,cJ,cL,cP]);rw[zJ];simp)
  exact YU
 case true =>
 have RR:=I (show cT (O.mk x0 x1 x2 x3 x4 x5 x6 x7 x8 x9 F G Z) (.mk 7 tag J its keys)=true by rw[rq];(try simp only[O.cy,O.cu,cJ,cL,cP]);(try simp only[R.v]);simp only[Bool.and_eq_true,decide_eq_true_eq];(repeat' apply And.intro) <;> first | assumption | trivial | exact ay ⟨by omega,by omega⟩ | exact ay aF | rfl | omega)
 exact YU
theorem Ht (kd:Int) (sw:kd<1\/9<kd) (tag J:Int) (its keys:List R) (s:O):lO 41 s (.mk kd tag J its keys):=by
 intro S S' q w vs hs hv
 have HS:=I hs
 obtain⟨Ai,ci,Ak,ck,rfl,_,nc,jM,gk,gm⟩:=cr.gK hv
 have lL:=I gk
 have rR:=I gm
 have mn:=gk.1
 have mU:=gk.2.1
 have lI:=gm.1
 have nf:=gm.2.1
 simp only[ar]at mn lI
 unfold maxLen at mU nf
 clear gk gm hv
 obtain⟨x0,x1,x2,x3,x4,x5,x6,x7,x8,x9,F,G,Z⟩:=s
 have js:=I hs
 obtain⟨A0,c0,A1,c1,A2,c2,A3,c3,A6,c6,A7,c7,A8,c8,hq,e0,e1,e2,e3,e4,e5,e6,e7,e8,e9,iE,jc,jd,fj,fm,fa,fb,ew,eL,eK,eV,eX,eY,fp,fq,fc,ff,g4,g5,g10,g11,g12,-,qv,-,-,-,-,-⟩:=cv.j8 hs
 clear hs
 have ga:¬q=w.heap.size:=aF
 have dX:U w w:=U.refl w
 have RR:=I (Hn (O.mk x0 x1 x2 x3 x4 x5 x6 x7 x8 x9 F G Z) kd tag J its keys sw)
 have k_1:(kd==1)=false:=aH
 have k_2:(kd==2)=false:=aH
 have k_3:(kd==3)=false:=aH
 have k_4:(kd==4)=false:=aH
 have k_5:(kd==5)=false:=aH
 have k_6:(kd==6)=false:=aH
 have k_7:(kd==7)=false:=aH
 have k_8:(kd==8)=false:=aH
 have k_9:(kd==9)=false:=aH
 have m_3:(kd != 3)=true:=aH
 have m_4:(kd != 4)=true:=aH
 have m_5:(kd != 5)=true:=aH
 have m_6:(kd != 6)=true:=aH
 have m_7:(kd != 7)=true:=aH
 have yM:(decide (2<=kd)&&decide (kd<=7))=false:=aH
 rcases sw with sw | sw
 ·
  have d_2:decide (2<=kd)=false:=aH
  exact YV
 ·
  have d_2:decide (2<=kd)=true:=aH
  have d_7:decide (kd<=7)=false:=aH
  exact YV
end Go.Proofs.YtjngkknbpfgdcaaGreatDoor
