import Derived.Test.YtjngkknbpfgdcaaGreatDoorVvS5bz
set_option linter.unusedVariables false
set_option linter.unusedSimpArgs false
set_option maxRecDepth 100000
set_option maxHeartbeats 8000000
namespace Go.Proofs.YtjngkknbpfgdcaaGreatDoor
open Go.RowKit
--%quiet
theorem NV (tag J:Int) (its keys:List R) (s:O):lO 41 s (.mk 6 tag J its keys):=by
 intro S S' q w vs hs hv
 have HS:=I hs
 obtain⟨Ai,ci,Ak,ck,rfl,_,nc,jM,gk,gm⟩:=cr.gK hv
 have lL:=I gk
 have rR:=I gm
 have mn:=gk.1
 have mU:=gk.2.1
 have lI:=gm.1
 have nf:=gm.2.1
 simp only[ar]at mn lI
 unfold maxLen at mU nf
 clear gk gm hv
 obtain⟨x0,x1,x2,x3,x4,x5,x6,x7,x8,x9,F,G,Z⟩:=s
 have js:=I hs
 obtain⟨A0,c0,A1,c1,A2,c2,A3,c3,A6,c6,A7,c7,A8,c8,hq,e0,e1,e2,e3,e4,e5,e6,e7,e8,e9,iE,jc,jd,fj,fm,fa,fb,ew,eL,eK,eV,eX,eY,fp,fq,fc,ff,g4,g5,g10,g11,g12,-,qv,-,-,-,-,-⟩:=cv.j8 hs
 clear hs
 have ga:¬q=w.heap.size:=aF
 have dX:U w w:=U.refl w
 by_cases rZ:J<1
 case pos =>
  have RR:=I (show cT (O.mk x0 x1 x2 x3 x4 x5 x6 x7 x8 x9 F G Z) (.mk 6 tag J its keys)=false by rw[eT];show (decide (1<=J/\J<=Z)&&_)=false;rw[ax (show ¬(1<=J/\J<=Z) by omega)];rfl)
  have qy:decide (J<1)=true:=aH
  exact sM
 case neg =>
 have qy:decide (J<1)=false:=aH
 by_cases Ba:Z<J
 case pos =>
  have RR:=I (show cT (O.mk x0 x1 x2 x3 x4 x5 x6 x7 x8 x9 F G Z) (.mk 6 tag J its keys)=false by rw[eT];show (decide (1<=J/\J<=Z)&&_)=false;rw[ax (show ¬(1<=J/\J<=Z) by omega)];rfl)
  have zI:decide (Z<J)=true:=aH
  exact sM
 case neg =>
 have zI:decide (Z<J)=false:=aH
 by_cases hlen:its.length=3
 case neg =>
  have kJ:=hlen
  by_cases ma:1<=tag
  case neg =>
   by_cases cU:keys.length=0
   case neg =>
    have RR:=I (show cT (O.mk x0 x1 x2 x3 x4 x5 x6 x7 x8 x9 F G Z) (.mk 6 tag J its keys)=false by rw[eT];(try simp only[O.cy,O.cu,cJ,cL,cP]);simp[kJ])
    have sl:((its.length:Int)==3)=false:=aN
    have sn:((its.length:Int) != 3)=true:=aM
    have jw:decide (1<=tag)=false:=ax aF
    have km:decide (tag<1)=true:=ay aF
    have kn:decide (0<tag)=false:=ax aF
    exact YW
   case pos =>
   have RR:=I (show cT (O.mk x0 x1 x2 x3 x4 x5 x6 x7 x8 x9 F G Z) (.mk 6 tag J its keys)=false by rw[eT];(try simp only[O.cy,O.cu,cJ,cL,cP]);simp[kJ])
   have sl:((its.length:Int)==3)=false:=aN
   have sn:((its.length:Int) != 3)=true:=aM
   have jw:decide (1<=tag)=false:=ax aF
   have km:decide (tag<1)=true:=ay aF
   have kn:decide (0<tag)=false:=ax aF
   exact YX
  case pos =>
  by_cases cU:keys.length=0
  case neg =>
   have RR:=I (show cT (O.mk x0 x1 x2 x3 x4 x5 x6 x7 x8 x9 F G Z) (.mk 6 tag J its keys)=false by rw[eT];(try simp only[O.cy,O.cu,cJ,cL,cP]);simp[kJ])
   have sl:((its.length:Int)==3)=false:=aN
   have sn:((its.length:Int) != 3)=true:=aM
   have jw:decide (1<=tag)=true:=ay aF
   have km:decide (tag<1)=false:=ax aF
   have kn:decide (0<tag)=true:=ay aF
   exact YW
  case pos =>
  have RR:=I (show cT (O.mk x0 x1 x2 x3 x4 x5 x6 x7 x8 x9 F G Z) (.mk 6 tag J its keys)=false by rw[eT];(try simp only[O.cy,O.cu,cJ,cL,cP]);simp[kJ])
  have sl:((its.length:Int)==3)=false:=aN
  have sn:((its.length:Int) != 3)=true:=aM
  have jw:decide (1<=tag)=true:=ay aF
  have km:decide (tag<1)=false:=ax aF
  have kn:decide (0<tag)=true:=ay aF
  exact YX
 case pos =>
 obtain⟨a,b,c,rfl⟩:∃a b c,its=[a,b,c]:=by
  match its,hlen with
  | [a,b,c],_=>exact⟨a,b,c,rfl⟩
 simp only[aD,aE,Nat.reduceAdd]at mn
 clear hlen
 (obtain⟨b1,o1,cz,cD,cE,cB,cF,cO,gb,dS,gy,gF,kP,eN,fi,eO,fT,gD,gE,fD,fE,fG,fK,fN,jy⟩:=R.e0 lL.out aJ dX;subst gb)
 (obtain⟨b2,o2,da,dw,dx,dy,dz,dA,mO,mu,nn,od,vz,kv,kz,kA,iw,kD,kE,jS,jT,jU,jV,jW,j1⟩:=R.e1 lL.out aJ dX;injection Option.some.inj mO with qb2 tm _;subst qb2 tm)
 (obtain⟨b3,o3,j9,gh,iI,iJ,iK,iL,Mw,yN,ve,Qu,OY,Jv,Jw,Jx,FJ,Jy,Jz,Qv,AP,Qw,Qx,Qy,Qz⟩:=R.e2 lL.out aJ dX;injection Option.some.inj Mw with qb3 qo3 _;subst qb3 qo3)
 have iH:¬b1=w.heap.size:=aF
 obtain rfl:a=.mk cz cD cE cB cF cO:=gF.out
 have Bi:=I fT
 unfold maxLen at fT
 obtain rfl:b=.mk da dw dx dy dz dA:=od.out
 have Ed:=I iw
 unfold maxLen at iw
 obtain rfl:c=.mk j9 gh iI iJ iK iL:=Qu.out
 have GT3:=I FJ
 unfold maxLen at FJ
 by_cases ma:1<=tag
 case neg =>
  by_cases cU:keys.length=0
  case neg =>
   by_cases kF:cz=19
   case neg =>
    have RR:=I (show cT (O.mk x0 x1 x2 x3 x4 x5 x6 x7 x8 x9 F G Z) (.mk 6 tag J [.mk cz cD cE cB cF cO,.mk da dw dx dy dz dA,.mk j9 gh iI iJ iK iL] keys)=false by rw[eT];(try simp only[O.cy,O.cu,cJ,cL,cP]);simp[ma])
    have jw:decide (1<=tag)=false:=ax aF
    have km:decide (tag<1)=true:=ay aF
    have kn:decide (0<tag)=false:=ax aF
    have cW:((keys.length:Int)==0)=false:=aN
    have cX:((keys.length:Int) != 0)=true:=aM
    exact KT
   case pos =>
   subst kF
   cases fR:eE (O.mk x0 x1 x2 x3 x4 x5 x6 x7 x8 x9 F G Z) ⟨19,cD,cE,cB,cF,cO⟩
   case false =>
    have RR:=I (show cT (O.mk x0 x1 x2 x3 x4 x5 x6 x7 x8 x9 F G Z) (.mk 6 tag J [.mk 19 cD cE cB cF cO,.mk da dw dx dy dz dA,.mk j9 gh iI iJ iK iL] keys)=false by rw[eT];(try simp only[O.cy,O.cu,cJ,cL,cP]);simp[ma])
    have jw:decide (1<=tag)=false:=ax aF
    have km:decide (tag<1)=true:=ay aF
    have kn:decide (0<tag)=false:=ax aF
    exact YY
   case true =>
   by_cases nU:da=19
   case neg =>
    have RR:=I (show cT (O.mk x0 x1 x2 x3 x4 x5 x6 x7 x8 x9 F G Z) (.mk 6 tag J [.mk 19 cD cE cB cF cO,.mk da dw dx dy dz dA,.mk j9 gh iI iJ iK iL] keys)=false by rw[eT];(try simp only[O.cy,O.cu,cJ,cL,cP]);simp[ma])
    have jw:decide (1<=tag)=false:=ax aF
    have km:decide (tag<1)=true:=ay aF
    have kn:decide (0<tag)=false:=ax aF
    have cW:((keys.length:Int)==0)=false:=aN
    have cX:((keys.length:Int) != 0)=true:=aM
    exact KU
   case pos =>
   subst nU
   cases iT:eE (O.mk x0 x1 x2 x3 x4 x5 x6 x7 x8 x9 F G Z) ⟨19,dw,dx,dy,dz,dA⟩
   case false =>
    have RR:=I (show cT (O.mk x0 x1 x2 x3 x4 x5 x6 x7 x8 x9 F G Z) (.mk 6 tag J [.mk 19 cD cE cB cF cO,.mk 19 dw dx dy dz dA,.mk j9 gh iI iJ iK iL] keys)=false by rw[eT];(try simp only[O.cy,O.cu,cJ,cL,cP]);simp[ma])
    have jw:decide (1<=tag)=false:=ax aF
    have km:decide (tag<1)=true:=ay aF
    have kn:decide (0<tag)=false:=ax aF
    exact Y0
   case true =>
   by_cases zg:j9=1
   case neg =>
    have RR:=I (show cT (O.mk x0 x1 x2 x3 x4 x5 x6 x7 x8 x9 F G Z) (.mk 6 tag J [.mk 19 cD cE cB cF cO,.mk 19 dw dx dy dz dA,.mk j9 gh iI iJ iK iL] keys)=false by rw[eT];(try simp only[O.cy,O.cu,cJ,cL,cP]);simp[ma])
    have jw:decide (1<=tag)=false:=ax aF
    have km:decide (tag<1)=true:=ay aF
    have kn:decide (0<tag)=false:=ax aF
    have cW:((keys.length:Int)==0)=false:=aN
    have cX:((keys.length:Int) != 0)=true:=aM
    exact KV
   case pos =>
   subst zg
   cases tc:eE (O.mk x0 x1 x2 x3 x4 x5 x6 x7 x8 x9 F G Z) ⟨1,gh,iI,iJ,iK,iL⟩
   case false =>
    have RR:=I (show cT (O.mk x0 x1 x2 x3 x4 x5 x6 x7 x8 x9 F G Z) (.mk 6 tag J [.mk 19 cD cE cB cF cO,.mk 19 dw dx dy dz dA,.mk 1 gh iI iJ iK iL] keys)=false by rw[eT];(try simp only[O.cy,O.cu,cJ,cL,cP]);simp[ma])
    have jw:decide (1<=tag)=false:=ax aF
    have km:decide (tag<1)=true:=ay aF
    have kn:decide (0<tag)=false:=ax aF
    have cW:((keys.length:Int)==0)=false:=aN
    have cX:((keys.length:Int) != 0)=true:=aM
    exact KW
   case true =>
   by_cases FW:0<=gh
   case neg =>
    have RR:=I (show cT (O.mk x0 x1 x2 x3 x4 x5 x6 x7 x8 x9 F G Z) (.mk 6 tag J [.mk 19 cD cE cB cF cO,.mk 19 dw dx dy dz dA,.mk 1 gh iI iJ iK iL] keys)=false by rw[eT];(try simp only[O.cy,O.cu,cJ,cL,cP]);simp[ma])
    have jw:decide (1<=tag)=false:=ax aF
    have km:decide (tag<1)=true:=ay aF
    have kn:decide (0<tag)=false:=ax aF
    have cW:((keys.length:Int)==0)=false:=aN
    have cX:((keys.length:Int) != 0)=true:=aM
    have Cm:decide (0<=gh)=false:=ax aF
    exact zM
   case pos =>
   have RR:=I (show cT (O.mk x0 x1 x2 x3 x4 x5 x6 x7 x8 x9 F G Z) (.mk 6 tag J [.mk 19 cD cE cB cF cO,.mk 19 dw dx dy dz dA,.mk 1 gh iI iJ iK iL] keys)=false by rw[eT];(try simp only[O.cy,O.cu,cJ,cL,cP]);simp[ma])
   have jw:decide (1<=tag)=false:=ax aF
   have km:decide (tag<1)=true:=ay aF
   have kn:decide (0<tag)=false:=ax aF
   have cW:((keys.length:Int)==0)=false:=aN
   have cX:((keys.length:Int) != 0)=true:=aM
   have Cm:decide (0<=gh)=true:=ay aF
   exact zM
  case pos =>
  by_cases kF:cz=19
  case neg =>
   have RR:=I (show cT (O.mk x0 x1 x2 x3 x4 x5 x6 x7 x8 x9 F G Z) (.mk 6 tag J [.mk cz cD cE cB cF cO,.mk da dw dx dy dz dA,.mk j9 gh iI iJ iK iL] keys)=false by rw[eT];(try simp only[O.cy,O.cu,cJ,cL,cP]);simp[ma])
   have jw:decide (1<=tag)=false:=ax aF
   have km:decide (tag<1)=true:=ay aF
   have kn:decide (0<tag)=false:=ax aF
   have cW:((keys.length:Int)==0)=true:=aK
   have cX:((keys.length:Int) != 0)=false:=aL
   exact KT
  case pos =>
  subst kF
  cases fR:eE (O.mk x0 x1 x2 x3 x4 x5 x6 x7 x8 x9 F G Z) ⟨19,cD,cE,cB,cF,cO⟩
  case false =>
   have RR:=I (show cT (O.mk x0 x1 x2 x3 x4 x5 x6 x7 x8 x9 F G Z) (.mk 6 tag J [.mk 19 cD cE cB cF cO,.mk da dw dx dy dz dA,.mk j9 gh iI iJ iK iL] keys)=false by rw[eT];(try simp only[O.cy,O.cu,cJ,cL,cP]);simp[ma])
   have jw:decide (1<=tag)=false:=ax aF
   have km:decide (tag<1)=true:=ay aF
   have kn:decide (0<tag)=false:=ax aF
   exact Y1
  case true =>
  by_cases nU:da=19
  case neg =>
   have RR:=I (show cT (O.mk x0 x1 x2 x3 x4 x5 x6 x7 x8 x9 F G Z) (.mk 6 tag J [.mk 19 cD cE cB cF cO,.mk da dw dx dy dz dA,.mk j9 gh iI iJ iK iL] keys)=false by rw[eT];(try simp only[O.cy,O.cu,cJ,cL,cP]);simp[ma])
   have jw:decide (1<=tag)=false:=ax aF
   have km:decide (tag<1)=true:=ay aF
   have kn:decide (0<tag)=false:=ax aF
   have cW:((keys.length:Int)==0)=true:=aK
   have cX:((keys.length:Int) != 0)=false:=aL
   exact KU
  case pos =>
  subst nU
  cases iT:eE (O.mk x0 x1 x2 x3 x4 x5 x6 x7 x8 x9 F G Z) ⟨19,dw,dx,dy,dz,dA⟩
  case false =>
   have RR:=I (show cT (O.mk x0 x1 x2 x3 x4 x5 x6 x7 x8 x9 F G Z) (.mk 6 tag J [.mk 19 cD cE cB cF cO,.mk 19 dw dx dy dz dA,.mk j9 gh iI iJ iK iL] keys)=false by rw[eT];(try simp only[O.cy,O.cu,cJ,cL,cP]);simp[ma])
   have jw:decide (1<=tag)=false:=ax aF
   have km:decide (tag<1)=true:=ay aF
   have kn:decide (0<tag)=false:=ax aF
   exact Y2
  case true =>
  by_cases zg:j9=1
  case neg =>
   have RR:=I (show cT (O.mk x0 x1 x2 x3 x4 x5 x6 x7 x8 x9 F G Z) (.mk 6 tag J [.mk 19 cD cE cB cF cO,.mk 19 dw dx dy dz dA,.mk j9 gh iI iJ iK iL] keys)=false by rw[eT];(try simp only[O.cy,O.cu,cJ,cL,cP]);simp[ma])
   have jw:decide (1<=tag)=false:=ax aF
   have km:decide (tag<1)=true:=ay aF
   have kn:decide (0<tag)=false:=ax aF
   have cW:((keys.length:Int)==0)=true:=aK
   have cX:((keys.length:Int) != 0)=false:=aL
   exact KV
  case pos =>
  subst zg
  cases tc:eE (O.mk x0 x1 x2 x3 x4 x5 x6 x7 x8 x9 F G Z) ⟨1,gh,iI,iJ,iK,iL⟩
  case false =>
   have RR:=I (show cT (O.mk x0 x1 x2 x3 x4 x5 x6 x7 x8 x9 F G Z) (.mk 6 tag J [.mk 19 cD cE cB cF cO,.mk 19 dw dx dy dz dA,.mk 1 gh iI iJ iK iL] keys)=false by rw[eT];(try simp only[O.cy,O.cu,cJ,cL,cP]);simp[ma])
   have jw:decide (1<=tag)=false:=ax aF
   have km:decide (tag<1)=true:=ay aF
   have kn:decide (0<tag)=false:=ax aF
   have cW:((keys.length:Int)==0)=true:=aK
   have cX:((keys.length:Int) != 0)=false:=aL
   exact KW
  case true =>
  by_cases FW:0<=gh
  case neg =>
   have RR:=I (show cT (O.mk x0 x1 x2 x3 x4 x5 x6 x7 x8 x9 F G Z) (.mk 6 tag J [.mk 19 cD cE cB cF cO,.mk 19 dw dx dy dz dA,.mk 1 gh iI iJ iK iL] keys)=false by rw[eT];(try simp only[O.cy,O.cu,cJ,cL,cP]);simp[ma])
   have jw:decide (1<=tag)=false:=ax aF
   have km:decide (tag<1)=true:=ay aF
   have kn:decide (0<tag)=false:=ax aF
   have cW:((keys.length:Int)==0)=true:=aK
   have cX:((keys.length:Int) != 0)=false:=aL
   have Cm:decide (0<=gh)=false:=ax aF
   exact zM
  case pos =>
  have RR:=I (show cT (O.mk x0 x1 x2 x3 x4 x5 x6 x7 x8 x9 F G Z) (.mk 6 tag J [.mk 19 cD cE cB cF cO,.mk 19 dw dx dy dz dA,.mk 1 gh iI iJ iK iL] keys)=false by rw[eT];(try simp only[O.cy,O.cu,cJ,cL,cP]);simp[ma])
  have jw:decide (1<=tag)=false:=ax aF
  have km:decide (tag<1)=true:=ay aF
  have kn:decide (0<tag)=false:=ax aF
  have cW:((keys.length:Int)==0)=true:=aK
  have cX:((keys.length:Int) != 0)=false:=aL
  have Cm:decide (0<=gh)=true:=ay aF
  exact zM
 case pos =>
 by_cases cU:keys.length=0
 case neg =>
  by_cases kF:cz=19
  case neg =>
   have RR:=I (show cT (O.mk x0 x1 x2 x3 x4 x5 x6 x7 x8 x9 F G Z) (.mk 6 tag J [.mk cz cD cE cB cF cO,.mk da dw dx dy dz dA,.mk j9 gh iI iJ iK iL] keys)=false by rw[eT];(try simp only[O.cy,O.cu,cJ,cL,cP]);simp[cU])
   have jw:decide (1<=tag)=true:=ay aF
   have km:decide (tag<1)=false:=ax aF
   have kn:decide (0<tag)=true:=ay aF
   have cW:((keys.length:Int)==0)=false:=aN
   have cX:((keys.length:Int) != 0)=true:=aM
   exact KT
  case pos =>
  subst kF
  cases fR:eE (O.mk x0 x1 x2 x3 x4 x5 x6 x7 x8 x9 F G Z) ⟨19,cD,cE,cB,cF,cO⟩
  case false =>
   have RR:=I (show cT (O.mk x0 x1 x2 x3 x4 x5 x6 x7 x8 x9 F G Z) (.mk 6 tag J [.mk 19 cD cE cB cF cO,.mk da dw dx dy dz dA,.mk j9 gh iI iJ iK iL] keys)=false by rw[eT];(try simp only[O.cy,O.cu,cJ,cL,cP]);simp[cU])
   have jw:decide (1<=tag)=true:=ay aF
   have km:decide (tag<1)=false:=ax aF
   have kn:decide (0<tag)=true:=ay aF
   exact YY
  case true =>
  by_cases nU:da=19
  case neg =>
   have RR:=I (show cT (O.mk x0 x1 x2 x3 x4 x5 x6 x7 x8 x9 F G Z) (.mk 6 tag J [.mk 19 cD cE cB cF cO,.mk da dw dx dy dz dA,.mk j9 gh iI iJ iK iL] keys)=false by rw[eT];(try simp only[O.cy,O.cu,cJ,cL,cP]);simp[cU])
   have jw:decide (1<=tag)=true:=ay aF
   have km:decide (tag<1)=false:=ax aF
   have kn:decide (0<tag)=true:=ay aF
   have cW:((keys.length:Int)==0)=false:=aN
   have cX:((keys.length:Int) != 0)=true:=aM
   exact KU
  case pos =>
  subst nU
  cases iT:eE (O.mk x0 x1 x2 x3 x4 x5 x6 x7 x8 x9 F G Z) ⟨19,dw,dx,dy,dz,dA⟩
  case false =>
   have RR:=I (show cT (O.mk x0 x1 x2 x3 x4 x5 x6 x7 x8 x9 F G Z) (.mk 6 tag J [.mk 19 cD cE cB cF cO,.mk 19 dw dx dy dz dA,.mk j9 gh iI iJ iK iL] keys)=false by rw[eT];(try simp only[O.cy,O.cu,cJ,cL,cP]);simp[cU])
   have jw:decide (1<=tag)=true:=ay aF
   have km:decide (tag<1)=false:=ax aF
   have kn:decide (0<tag)=true:=ay aF
   exact Y0
  case true =>
  by_cases zg:j9=1
  case neg =>
   have RR:=I (show cT (O.mk x0 x1 x2 x3 x4 x5 x6 x7 x8 x9 F G Z) (.mk 6 tag J [.mk 19 cD cE cB cF cO,.mk 19 dw dx dy dz dA,.mk j9 gh iI iJ iK iL] keys)=false by rw[eT];(try simp only[O.cy,O.cu,cJ,cL,cP]);simp[cU])
   have jw:decide (1<=tag)=true:=ay aF
   have km:decide (tag<1)=false:=ax aF
   have kn:decide (0<tag)=true:=ay aF
   have cW:((keys.length:Int)==0)=false:=aN
   have cX:((keys.length:Int) != 0)=true:=aM
   exact KV
  case pos =>
  subst zg
  cases tc:eE (O.mk x0 x1 x2 x3 x4 x5 x6 x7 x8 x9 F G Z) ⟨1,gh,iI,iJ,iK,iL⟩
  case false =>
   have RR:=I (show cT (O.mk x0 x1 x2 x3 x4 x5 x6 x7 x8 x9 F G Z) (.mk 6 tag J [.mk 19 cD cE cB cF cO,.mk 19 dw dx dy dz dA,.mk 1 gh iI iJ iK iL] keys)=false by rw[eT];(try simp only[O.cy,O.cu,cJ,cL,cP]);simp[cU])
   have jw:decide (1<=tag)=true:=ay aF
   have km:decide (tag<1)=false:=ax aF
   have kn:decide (0<tag)=true:=ay aF
   have cW:((keys.length:Int)==0)=false:=aN
   have cX:((keys.length:Int) != 0)=true:=aM
   exact KW
  case true =>
  by_cases FW:0<=gh
  case neg =>
   have RR:=I (show cT (O.mk x0 x1 x2 x3 x4 x5 x6 x7 x8 x9 F G Z) (.mk 6 tag J [.mk 19 cD cE cB cF cO,.mk 19 dw dx dy dz dA,.mk 1 gh iI iJ iK iL] keys)=false by rw[eT];(try simp only[O.cy,O.cu,cJ,cL,cP]);simp[cU])
   have jw:decide (1<=tag)=true:=ay aF
   have km:decide (tag<1)=false:=ax aF
   have kn:decide (0<tag)=true:=ay aF
   have cW:((keys.length:Int)==0)=false:=aN
   have cX:((keys.length:Int) != 0)=true:=aM
   have Cm:decide (0<=gh)=false:=ax aF
   exact zM
  case pos =>
  have RR:=I (show cT (O.mk x0 x1 x2 x3 x4 x5 x6 x7 x8 x9 F G Z) (.mk 6 tag J [.mk 19 cD cE cB cF cO,.mk 19 dw dx dy dz dA,.mk 1 gh iI iJ iK iL] keys)=false by rw[eT];(try simp only[O.cy,O.cu,cJ,cL,cP]);simp[cU])
  have jw:decide (1<=tag)=true:=ay aF
  have km:decide (tag<1)=false:=ax aF
  have kn:decide (0<tag)=true:=ay aF
  have cW:((keys.length:Int)==0)=false:=aN
  have cX:((keys.length:Int) != 0)=true:=aM
  have Cm:decide (0<=gh)=true:=ay aF
  exact zM
 case pos =>
 by_cases kF:cz=19
 case neg =>
  have RR:=I (show cT (O.mk x0 x1 x2 x3 x4 x5 x6 x7 x8 x9 F G Z) (.mk 6 tag J [.mk cz cD cE cB cF cO,.mk da dw dx dy dz dA,.mk j9 gh iI iJ iK iL] keys)=false by rw[eT];(try simp only[O.cy,O.cu,cJ,cL,cP]);simp[R.v,kF])
  have jw:decide (1<=tag)=true:=ay aF
  have km:decide (tag<1)=false:=ax aF
  have kn:decide (0<tag)=true:=ay aF
  have cW:((keys.length:Int)==0)=true:=aK
  have cX:((keys.length:Int) != 0)=false:=aL
  exact KT
 case pos =>
 subst kF
 cases fR:eE (O.mk x0 x1 x2 x3 x4 x5 x6 x7 x8 x9 F G Z) ⟨19,cD,cE,cB,cF,cO⟩
 case false =>
  have RR:=I (show cT (O.mk x0 x1 x2 x3 x4 x5 x6 x7 x8 x9 F G Z) (.mk 6 tag J [.mk 19 cD cE cB cF cO,.mk da dw dx dy dz dA,.mk j9 gh iI iJ iK iL] keys)=false by rw[eT];(try simp only[O.cy,O.cu,cJ,cL,cP]);simp only[R.v];rw[fR];simp)
  have jw:decide (1<=tag)=true:=ay aF
  have km:decide (tag<1)=false:=ax aF
  have kn:decide (0<tag)=true:=ay aF
  exact Y1
 case true =>
 by_cases nU:da=19
 case neg =>
  have RR:=I (show cT (O.mk x0 x1 x2 x3 x4 x5 x6 x7 x8 x9 F G Z) (.mk 6 tag J [.mk 19 cD cE cB cF cO,.mk da dw dx dy dz dA,.mk j9 gh iI iJ iK iL] keys)=false by rw[eT];(try simp only[O.cy,O.cu,cJ,cL,cP]);simp[R.v,nU])
  have jw:decide (1<=tag)=true:=ay aF
  have km:decide (tag<1)=false:=ax aF
  have kn:decide (0<tag)=true:=ay aF
  have cW:((keys.length:Int)==0)=true:=aK
  have cX:((keys.length:Int) != 0)=false:=aL
  exact KU
 case pos =>
 subst nU
 cases iT:eE (O.mk x0 x1 x2 x3 x4 x5 x6 x7 x8 x9 F G Z) ⟨19,dw,dx,dy,dz,dA⟩
 case false =>
  have RR:=I (show cT (O.mk x0 x1 x2 x3 x4 x5 x6 x7 x8 x9 F G Z) (.mk 6 tag J [.mk 19 cD cE cB cF cO,.mk 19 dw dx dy dz dA,.mk j9 gh iI iJ iK iL] keys)=false by rw[eT];(try simp only[O.cy,O.cu,cJ,cL,cP]);simp only[R.v];rw[iT];simp)
  have jw:decide (1<=tag)=true:=ay aF
  have km:decide (tag<1)=false:=ax aF
  have kn:decide (0<tag)=true:=ay aF
  exact Y2
 case true =>
 by_cases zg:j9=1
 case neg =>
  have RR:=I (show cT (O.mk x0 x1 x2 x3 x4 x5 x6 x7 x8 x9 F G Z) (.mk 6 tag J [.mk 19 cD cE cB cF cO,.mk 19 dw dx dy dz dA,.mk j9 gh iI iJ iK iL] keys)=false by rw[eT];(try simp only[O.cy,O.cu,cJ,cL,cP]);simp[R.v,zg])
  have jw:decide (1<=tag)=true:=ay aF
  have km:decide (tag<1)=false:=ax aF
  have kn:decide (0<tag)=true:=ay aF
  have cW:((keys.length:Int)==0)=true:=aK
  have cX:((keys.length:Int) != 0)=false:=aL
  exact KV
 case pos =>
 subst zg
 cases tc:eE (O.mk x0 x1 x2 x3 x4 x5 x6 x7 x8 x9 F G Z) ⟨1,gh,iI,iJ,iK,iL⟩
 case false =>
  have RR:=I (show cT (O.mk x0 x1 x2 x3 x4 x5 x6 x7 x8 x9 F G Z) (.mk 6 tag J [.mk 19 cD cE cB cF cO,.mk 19 dw dx dy dz dA,.mk 1 gh iI iJ iK iL] keys)=false by rw[eT];(try simp only[O.cy,O.cu,cJ,cL,cP]);simp only[R.v];rw[tc];simp)
  have jw:decide (1<=tag)=true:=ay aF
  have km:decide (tag<1)=false:=ax aF
  have kn:decide (0<tag)=true:=ay aF
  have cW:((keys.length:Int)==0)=true:=aK
  have cX:((keys.length:Int) != 0)=false:=aL
  exact KW
 case true =>
 by_cases FW:0<=gh
 case neg =>
  have RR:=I (show cT (O.mk x0 x1 x2 x3 x4 x5 x6 x7 x8 x9 F G Z) (.mk 6 tag J [.mk 19 cD cE cB cF cO,.mk 19 dw dx dy dz dA,.mk 1 gh iI iJ iK iL] keys)=false from by rw[eT];refine Bool.eq_false_iff.2 fun hh=>?_;simp only[Bool.and_eq_true,decide_eq_true_eq]at hh;(try simp only[cJ,cL,cP,R.v]at hh);omega)
  have jw:decide (1<=tag)=true:=ay aF
  have km:decide (tag<1)=false:=ax aF
  have kn:decide (0<tag)=true:=ay aF
  have cW:((keys.length:Int)==0)=true:=aK
  have cX:((keys.length:Int) != 0)=false:=aL
  have Cm:decide (0<=gh)=false:=ax aF
  exact zM
 case pos =>
 have RR:=I (show cT (O.mk x0 x1 x2 x3 x4 x5 x6 x7 x8 x9 F G Z) (.mk 6 tag J [.mk 19 cD cE cB cF cO,.mk 19 dw dx dy dz dA,.mk 1 gh iI iJ iK iL] keys)=true by rw[eT];(try simp only[O.cy,O.cu,cJ,cL,cP]);(try simp only[R.v]);simp only[Bool.and_eq_true,decide_eq_true_eq];(repeat' apply And.intro) <;> first | assumption | trivial | exact ay ⟨by omega,by omega⟩ | exact ay aF | rfl | omega)
 have jw:decide (1<=tag)=true:=ay aF
 have km:decide (tag<1)=false:=ax aF
 have kn:decide (0<tag)=true:=ay aF
 have cW:((keys.length:Int)==0)=true:=aK
 have cX:((keys.length:Int) != 0)=false:=aL
 have Cm:decide (0<=gh)=true:=ay aF
 exact zM
end Go.Proofs.YtjngkknbpfgdcaaGreatDoor
