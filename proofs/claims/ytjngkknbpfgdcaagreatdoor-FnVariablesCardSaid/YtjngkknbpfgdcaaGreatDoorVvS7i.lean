import Derived.Test.YtjngkknbpfgdcaaGreatDoorVvS5bz
set_option linter.unusedVariables false
set_option linter.unusedSimpArgs false
set_option maxRecDepth 100000
set_option maxHeartbeats 8000000
namespace Go.Proofs.YtjngkknbpfgdcaaGreatDoor
open Go.RowKit Go.Proofs.Tryz
--%quiet
theorem NZ (tag J:Int) (its keys:List R) (s:O):lO 41 s (.mk 8 tag J its keys):=by
 intro S S' q w vs hs hv
 have HS:=I hs
 obtain⟨Ai,ci,Ak,ck,rfl,_,nc,jM,gk,gm⟩:=cr.gK hv
 have lL:=I gk
 have rR:=I gm
 have mn:=gk.1
 have mU:=gk.2.1
 have lI:=gm.1
 have nf:=gm.2.1
 simp only[ar]at mn lI
 unfold maxLen at mU nf
 clear gk gm hv
 obtain⟨x0,x1,x2,x3,x4,x5,x6,x7,x8,x9,F,G,Z⟩:=s
 have js:=I hs
 obtain⟨A0,c0,A1,c1,A2,c2,A3,c3,A6,c6,A7,c7,A8,c8,hq,e0,e1,e2,e3,e4,e5,e6,e7,e8,e9,iE,jc,jd,fj,fm,fa,fb,ew,eL,eK,eV,eX,eY,fp,fq,fc,ff,g4,g5,g10,g11,g12,-,qv,-,-,-,-,-⟩:=cv.j8 hs
 clear hs
 have ga:¬q=w.heap.size:=aF
 have dX:U w w:=U.refl w
 by_cases rZ:¬J=0
 case pos =>
  have RR:=I (show cT (O.mk x0 x1 x2 x3 x4 x5 x6 x7 x8 x9 F G Z) (.mk 8 tag J its keys)=false by rw[jE];show (decide (J=0)&&_)=false;rw[ax rZ];rfl)
  have qy:(J != 0)=true:=aH
  exact sM
 case neg =>
 have qy:(J != 0)=false:=aH
 by_cases hlen:its.length=2
 case neg =>
  have kJ:=hlen
  by_cases dn:tag=0
  case neg =>
   by_cases cU:keys.length=0
   case neg =>
    have RR:=I (show cT (O.mk x0 x1 x2 x3 x4 x5 x6 x7 x8 x9 F G Z) (.mk 8 tag J its keys)=false by rw[jE];(try simp only[O.cy,O.cu,cJ,cL,cP]);simp[kJ])
    have sl:((its.length:Int)==2)=false:=aN
    have sn:((its.length:Int) != 2)=true:=aM
    have dQ:(tag==0)=false:=aN
    have dR:(tag != 0)=true:=aM
    exact KX
   case pos =>
   have RR:=I (show cT (O.mk x0 x1 x2 x3 x4 x5 x6 x7 x8 x9 F G Z) (.mk 8 tag J its keys)=false by rw[jE];(try simp only[O.cy,O.cu,cJ,cL,cP]);simp[kJ])
   have sl:((its.length:Int)==2)=false:=aN
   have sn:((its.length:Int) != 2)=true:=aM
   have dQ:(tag==0)=false:=aN
   have dR:(tag != 0)=true:=aM
   exact KY
  case pos =>
  by_cases cU:keys.length=0
  case neg =>
   have RR:=I (show cT (O.mk x0 x1 x2 x3 x4 x5 x6 x7 x8 x9 F G Z) (.mk 8 tag J its keys)=false by rw[jE];(try simp only[O.cy,O.cu,cJ,cL,cP]);simp[kJ])
   have sl:((its.length:Int)==2)=false:=aN
   have sn:((its.length:Int) != 2)=true:=aM
   have dQ:(tag==0)=true:=aK
   have dR:(tag != 0)=false:=aL
   exact KX
  case pos =>
  have RR:=I (show cT (O.mk x0 x1 x2 x3 x4 x5 x6 x7 x8 x9 F G Z) (.mk 8 tag J its keys)=false by rw[jE];(try simp only[O.cy,O.cu,cJ,cL,cP]);simp[kJ])
  have sl:((its.length:Int)==2)=false:=aN
  have sn:((its.length:Int) != 2)=true:=aM
  have dQ:(tag==0)=true:=aK
  have dR:(tag != 0)=false:=aL
  exact KY
 case pos =>
 obtain⟨a,b,rfl⟩:∃a b,its=[a,b]:=by
  match its,hlen with
  | [a,b],_=>exact⟨a,b,rfl⟩
 simp only[aD,aE,Nat.reduceAdd]at mn
 clear hlen
 (obtain⟨b1,o1,cz,cD,cE,cB,cF,cO,gb,dS,gy,gF,kP,eN,fi,eO,fT,gD,gE,fD,fE,fG,fK,fN,jy⟩:=R.e0 lL.out aJ dX;subst gb)
 (obtain⟨b2,o2,da,dw,dx,dy,dz,dA,mO,mu,nn,od,vz,kv,kz,kA,iw,kD,kE,jS,jT,jU,jV,jW,j1⟩:=R.e1 lL.out aJ dX;injection Option.some.inj mO with qb2 tm _;subst qb2 tm)
 have iH:¬b1=w.heap.size:=aF
 obtain rfl:a=.mk cz cD cE cB cF cO:=gF.out
 have Bi:=I fT
 unfold maxLen at fT
 obtain rfl:b=.mk da dw dx dy dz dA:=od.out
 have Ed:=I iw
 unfold maxLen at iw
 have FX:=I (show ∀(wx:World),cv wx S q (O.mk x0 x1 x2 x3 x4 x5 x6 x7 x8 x9 F G Z)->Row wx S' 6 (some ⟨b1,o1,none⟩) ci (([.mk cz cD cE cB cF cO,.mk da dw dx dy dz dA]:List R).map R.D)->Calls prog 40 #[.pointer (some ⟨q,0,none⟩),.slice (some ⟨b1,o1,none⟩) 2 ci] wx fun e w'=>e=.returned (.bool (fS (O.mk x0 x1 x2 x3 x4 x5 x6 x7 x8 x9 F G Z) [.mk cz cD cE cB cF cO,.mk da dw dx dy dz dA]))/\U wx w' from fun wx h1 h2=>gY (O.mk x0 x1 x2 x3 x4 x5 x6 x7 x8 x9 F G Z) [.mk cz cD cE cB cF cO,.mk da dw dx dy dz dA] S S' q wx _ ci h1 h2)
 by_cases dn:tag=0
 case neg =>
  by_cases cU:keys.length=0
  case neg =>
   by_cases kF:cz=5
   case neg =>
    have RR:=I (show cT (O.mk x0 x1 x2 x3 x4 x5 x6 x7 x8 x9 F G Z) (.mk 8 tag J [.mk cz cD cE cB cF cO,.mk da dw dx dy dz dA] keys)=false by rw[jE];(try simp only[O.cy,O.cu,cJ,cL,cP]);simp[dn])
    have dQ:(tag==0)=false:=aN
    have dR:(tag != 0)=true:=aM
    have cW:((keys.length:Int)==0)=false:=aN
    have cX:((keys.length:Int) != 0)=true:=aM
    exact KZ
   case pos =>
   subst kF
   cases mR:fS (O.mk x0 x1 x2 x3 x4 x5 x6 x7 x8 x9 F G Z) [.mk 5 cD cE cB cF cO,.mk da dw dx dy dz dA]
   case false =>
    exact Y4
   case true =>
   exact Y4
  case pos =>
  by_cases kF:cz=5
  case neg =>
   have RR:=I (show cT (O.mk x0 x1 x2 x3 x4 x5 x6 x7 x8 x9 F G Z) (.mk 8 tag J [.mk cz cD cE cB cF cO,.mk da dw dx dy dz dA] keys)=false by rw[jE];(try simp only[O.cy,O.cu,cJ,cL,cP]);simp[dn])
   have dQ:(tag==0)=false:=aN
   have dR:(tag != 0)=true:=aM
   have cW:((keys.length:Int)==0)=true:=aK
   have cX:((keys.length:Int) != 0)=false:=aL
   exact KZ
  case pos =>
  subst kF
  cases mR:fS (O.mk x0 x1 x2 x3 x4 x5 x6 x7 x8 x9 F G Z) [.mk 5 cD cE cB cF cO,.mk da dw dx dy dz dA]
  case false =>
   exact Y5
  case true =>
  exact Y5
 case pos =>
 by_cases cU:keys.length=0
 case neg =>
  by_cases kF:cz=5
  case neg =>
   have RR:=I (show cT (O.mk x0 x1 x2 x3 x4 x5 x6 x7 x8 x9 F G Z) (.mk 8 tag J [.mk cz cD cE cB cF cO,.mk da dw dx dy dz dA] keys)=false by rw[jE];(try simp only[O.cy,O.cu,cJ,cL,cP]);simp[cU])
   have dQ:(tag==0)=true:=aK
   have dR:(tag != 0)=false:=aL
   have cW:((keys.length:Int)==0)=false:=aN
   have cX:((keys.length:Int) != 0)=true:=aM
   exact KZ
  case pos =>
  subst kF
  cases mR:fS (O.mk x0 x1 x2 x3 x4 x5 x6 x7 x8 x9 F G Z) [.mk 5 cD cE cB cF cO,.mk da dw dx dy dz dA]
  case false =>
   exact Y6
  case true =>
  exact Y6
 case pos =>
 by_cases kF:cz=5
 case neg =>
  have RR:=I (show cT (O.mk x0 x1 x2 x3 x4 x5 x6 x7 x8 x9 F G Z) (.mk 8 tag J [.mk cz cD cE cB cF cO,.mk da dw dx dy dz dA] keys)=false by rw[jE];(try simp only[O.cy,O.cu,cJ,cL,cP]);simp[R.v,kF])
  have dQ:(tag==0)=true:=aK
  have dR:(tag != 0)=false:=aL
  have cW:((keys.length:Int)==0)=true:=aK
  have cX:((keys.length:Int) != 0)=false:=aL
  exact KZ
 case pos =>
 subst kF
 cases mR:fS (O.mk x0 x1 x2 x3 x4 x5 x6 x7 x8 x9 F G Z) [.mk 5 cD cE cB cF cO,.mk da dw dx dy dz dA]
 case false =>
  have RR:=I (show cT (O.mk x0 x1 x2 x3 x4 x5 x6 x7 x8 x9 F G Z) (.mk 8 tag J [.mk 5 cD cE cB cF cO,.mk da dw dx dy dz dA] keys)=false from Ob _ _ _ _ _ _ rfl mR)
  have dQ:(tag==0)=true:=aK
  have dR:(tag != 0)=false:=aL
  exact Y7
 case true =>
 have RR:=I (show cT (O.mk x0 x1 x2 x3 x4 x5 x6 x7 x8 x9 F G Z) (.mk 8 tag J [.mk 5 cD cE cB cF cO,.mk da dw dx dy dz dA] keys)=true by rw[jE];(try simp only[O.cy,O.cu,cJ,cL,cP]);(try simp only[R.v]);simp only[Bool.and_eq_true,decide_eq_true_eq];(repeat' apply And.intro) <;> first | assumption | trivial | exact ay ⟨by omega,by omega⟩ | exact ay aF | rfl | omega | exact yz mR | exact Wh mR | exact Hz mR)
 have dQ:(tag==0)=true:=aK
 have dR:(tag != 0)=false:=aL
 exact Y7
theorem J3 (tag J:Int) (its keys:List R) (s:O) (h9:¬(J=0/\its.length=2/\(j0 its 0).k=2/\(j0 its 1).k=1)):lO 41 s (.mk 9 tag J its keys):=by
 intro S S' q w vs hs hv
 have HS:=I hs
 obtain⟨Ai,ci,Ak,ck,rfl,_,nc,jM,gk,gm⟩:=cr.gK hv
 have lL:=I gk
 have rR:=I gm
 have mn:=gk.1
 have mU:=gk.2.1
 have lI:=gm.1
 have nf:=gm.2.1
 simp only[ar]at mn lI
 unfold maxLen at mU nf
 clear gk gm hv
 obtain⟨x0,x1,x2,x3,x4,x5,x6,x7,x8,x9,F,G,Z⟩:=s
 have js:=I hs
 obtain⟨A0,c0,A1,c1,A2,c2,A3,c3,A6,c6,A7,c7,A8,c8,hq,e0,e1,e2,e3,e4,e5,e6,e7,e8,e9,iE,jc,jd,fj,fm,fa,fb,ew,eL,eK,eV,eX,eY,fp,fq,fc,ff,g4,g5,g10,g11,g12,-,qv,-,-,-,-,-⟩:=cv.j8 hs
 clear hs
 have ga:¬q=w.heap.size:=aF
 have dX:U w w:=U.refl w
 by_cases rZ:¬J=0
 case pos =>
  have RR:=I (show cT (O.mk x0 x1 x2 x3 x4 x5 x6 x7 x8 x9 F G Z) (.mk 9 tag J its keys)=false by rw[iD];show (decide (J=0)&&_)=false;rw[ax rZ];rfl)
  have qy:(J != 0)=true:=aH
  exact sM
 case neg =>
 have qy:(J != 0)=false:=aH
 by_cases hlen:its.length=2
 case neg =>
  have kJ:=hlen
  by_cases dn:tag=0
  case neg =>
   by_cases cU:keys.length=0
   case neg =>
    have RR:=I (show cT (O.mk x0 x1 x2 x3 x4 x5 x6 x7 x8 x9 F G Z) (.mk 9 tag J its keys)=false by rw[iD];(try simp only[O.cy,O.cu,cJ,cL,cP]);simp[kJ])
    have sl:((its.length:Int)==2)=false:=aN
    have sn:((its.length:Int) != 2)=true:=aM
    have dQ:(tag==0)=false:=aN
    have dR:(tag != 0)=true:=aM
    exact KX
   case pos =>
   have RR:=I (show cT (O.mk x0 x1 x2 x3 x4 x5 x6 x7 x8 x9 F G Z) (.mk 9 tag J its keys)=false by rw[iD];(try simp only[O.cy,O.cu,cJ,cL,cP]);simp[kJ])
   have sl:((its.length:Int)==2)=false:=aN
   have sn:((its.length:Int) != 2)=true:=aM
   have dQ:(tag==0)=false:=aN
   have dR:(tag != 0)=true:=aM
   exact KY
  case pos =>
  by_cases cU:keys.length=0
  case neg =>
   have RR:=I (show cT (O.mk x0 x1 x2 x3 x4 x5 x6 x7 x8 x9 F G Z) (.mk 9 tag J its keys)=false by rw[iD];(try simp only[O.cy,O.cu,cJ,cL,cP]);simp[kJ])
   have sl:((its.length:Int)==2)=false:=aN
   have sn:((its.length:Int) != 2)=true:=aM
   have dQ:(tag==0)=true:=aK
   have dR:(tag != 0)=false:=aL
   exact KX
  case pos =>
  have RR:=I (show cT (O.mk x0 x1 x2 x3 x4 x5 x6 x7 x8 x9 F G Z) (.mk 9 tag J its keys)=false by rw[iD];(try simp only[O.cy,O.cu,cJ,cL,cP]);simp[kJ])
  have sl:((its.length:Int)==2)=false:=aN
  have sn:((its.length:Int) != 2)=true:=aM
  have dQ:(tag==0)=true:=aK
  have dR:(tag != 0)=false:=aL
  exact KY
 case pos =>
 obtain⟨a,b,rfl⟩:∃a b,its=[a,b]:=by
  match its,hlen with
  | [a,b],_=>exact⟨a,b,rfl⟩
 simp only[aD,aE,Nat.reduceAdd]at mn
 clear hlen
 (obtain⟨b1,o1,cz,cD,cE,cB,cF,cO,gb,dS,gy,gF,kP,eN,fi,eO,fT,gD,gE,fD,fE,fG,fK,fN,jy⟩:=R.e0 lL.out aJ dX;subst gb)
 (obtain⟨b2,o2,da,dw,dx,dy,dz,dA,mO,mu,nn,od,vz,kv,kz,kA,iw,kD,kE,jS,jT,jU,jV,jW,j1⟩:=R.e1 lL.out aJ dX;injection Option.some.inj mO with qb2 tm _;subst qb2 tm)
 have iH:¬b1=w.heap.size:=aF
 obtain rfl:a=.mk cz cD cE cB cF cO:=gF.out
 have Bi:=I fT
 unfold maxLen at fT
 obtain rfl:b=.mk da dw dx dy dz dA:=od.out
 have Ed:=I iw
 unfold maxLen at iw
 have FX:=I (show ∀(wx:World),cv wx S q (O.mk x0 x1 x2 x3 x4 x5 x6 x7 x8 x9 F G Z)->Row wx S' 6 (some ⟨b1,o1,none⟩) ci (([.mk cz cD cE cB cF cO,.mk da dw dx dy dz dA]:List R).map R.D)->Calls prog 40 #[.pointer (some ⟨q,0,none⟩),.slice (some ⟨b1,o1,none⟩) 2 ci] wx fun e w'=>e=.returned (.bool (fS (O.mk x0 x1 x2 x3 x4 x5 x6 x7 x8 x9 F G Z) [.mk cz cD cE cB cF cO,.mk da dw dx dy dz dA]))/\U wx w' from fun wx h1 h2=>gY (O.mk x0 x1 x2 x3 x4 x5 x6 x7 x8 x9 F G Z) [.mk cz cD cE cB cF cO,.mk da dw dx dy dz dA] S S' q wx _ ci h1 h2)
 by_cases dn:tag=0
 case neg =>
  by_cases cU:keys.length=0
  case neg =>
   by_cases kF:cz=2
   case neg =>
    have RR:=I (show cT (O.mk x0 x1 x2 x3 x4 x5 x6 x7 x8 x9 F G Z) (.mk 9 tag J [.mk cz cD cE cB cF cO,.mk da dw dx dy dz dA] keys)=false by rw[iD];(try simp only[O.cy,O.cu,cJ,cL,cP]);simp[dn])
    have dQ:(tag==0)=false:=aN
    have dR:(tag != 0)=true:=aM
    have cW:((keys.length:Int)==0)=false:=aN
    have cX:((keys.length:Int) != 0)=true:=aM
    exact K0
   case pos =>
   subst kF
   by_cases nU:da=1
   case neg =>
    have RR:=I (show cT (O.mk x0 x1 x2 x3 x4 x5 x6 x7 x8 x9 F G Z) (.mk 9 tag J [.mk 2 cD cE cB cF cO,.mk da dw dx dy dz dA] keys)=false by rw[iD];(try simp only[O.cy,O.cu,cJ,cL,cP]);simp[dn])
    have dQ:(tag==0)=false:=aN
    have dR:(tag != 0)=true:=aM
    have cW:((keys.length:Int)==0)=false:=aN
    have cX:((keys.length:Int) != 0)=true:=aM
    exact K1
   case pos =>
   subst nU
   exact absurd ⟨by omega,rfl,rfl,rfl⟩ h9
  case pos =>
  by_cases kF:cz=2
  case neg =>
   have RR:=I (show cT (O.mk x0 x1 x2 x3 x4 x5 x6 x7 x8 x9 F G Z) (.mk 9 tag J [.mk cz cD cE cB cF cO,.mk da dw dx dy dz dA] keys)=false by rw[iD];(try simp only[O.cy,O.cu,cJ,cL,cP]);simp[dn])
   have dQ:(tag==0)=false:=aN
   have dR:(tag != 0)=true:=aM
   have cW:((keys.length:Int)==0)=true:=aK
   have cX:((keys.length:Int) != 0)=false:=aL
   exact K0
  case pos =>
  subst kF
  by_cases nU:da=1
  case neg =>
   have RR:=I (show cT (O.mk x0 x1 x2 x3 x4 x5 x6 x7 x8 x9 F G Z) (.mk 9 tag J [.mk 2 cD cE cB cF cO,.mk da dw dx dy dz dA] keys)=false by rw[iD];(try simp only[O.cy,O.cu,cJ,cL,cP]);simp[dn])
   have dQ:(tag==0)=false:=aN
   have dR:(tag != 0)=true:=aM
   have cW:((keys.length:Int)==0)=true:=aK
   have cX:((keys.length:Int) != 0)=false:=aL
   exact K1
  case pos =>
  subst nU
  exact absurd ⟨by omega,rfl,rfl,rfl⟩ h9
 case pos =>
 by_cases cU:keys.length=0
 case neg =>
  by_cases kF:cz=2
  case neg =>
   have RR:=I (show cT (O.mk x0 x1 x2 x3 x4 x5 x6 x7 x8 x9 F G Z) (.mk 9 tag J [.mk cz cD cE cB cF cO,.mk da dw dx dy dz dA] keys)=false by rw[iD];(try simp only[O.cy,O.cu,cJ,cL,cP]);simp[cU])
   have dQ:(tag==0)=true:=aK
   have dR:(tag != 0)=false:=aL
   have cW:((keys.length:Int)==0)=false:=aN
   have cX:((keys.length:Int) != 0)=true:=aM
   exact K0
  case pos =>
  subst kF
  by_cases nU:da=1
  case neg =>
   have RR:=I (show cT (O.mk x0 x1 x2 x3 x4 x5 x6 x7 x8 x9 F G Z) (.mk 9 tag J [.mk 2 cD cE cB cF cO,.mk da dw dx dy dz dA] keys)=false by rw[iD];(try simp only[O.cy,O.cu,cJ,cL,cP]);simp[cU])
   have dQ:(tag==0)=true:=aK
   have dR:(tag != 0)=false:=aL
   have cW:((keys.length:Int)==0)=false:=aN
   have cX:((keys.length:Int) != 0)=true:=aM
   exact K1
  case pos =>
  subst nU
  exact absurd ⟨by omega,rfl,rfl,rfl⟩ h9
 case pos =>
 by_cases kF:cz=2
 case neg =>
  have RR:=I (show cT (O.mk x0 x1 x2 x3 x4 x5 x6 x7 x8 x9 F G Z) (.mk 9 tag J [.mk cz cD cE cB cF cO,.mk da dw dx dy dz dA] keys)=false by rw[iD];(try simp only[O.cy,O.cu,cJ,cL,cP]);simp[R.v,kF])
  have dQ:(tag==0)=true:=aK
  have dR:(tag != 0)=false:=aL
  have cW:((keys.length:Int)==0)=true:=aK
  have cX:((keys.length:Int) != 0)=false:=aL
  exact K0
 case pos =>
 subst kF
 by_cases nU:da=1
 case neg =>
  have RR:=I (show cT (O.mk x0 x1 x2 x3 x4 x5 x6 x7 x8 x9 F G Z) (.mk 9 tag J [.mk 2 cD cE cB cF cO,.mk da dw dx dy dz dA] keys)=false by rw[iD];(try simp only[O.cy,O.cu,cJ,cL,cP]);simp[R.v,nU])
  have dQ:(tag==0)=true:=aK
  have dR:(tag != 0)=false:=aL
  have cW:((keys.length:Int)==0)=true:=aK
  have cX:((keys.length:Int) != 0)=false:=aL
  exact K1
 case pos =>
 subst nU
 exact absurd ⟨by omega,rfl,rfl,rfl⟩ h9
end Go.Proofs.YtjngkknbpfgdcaaGreatDoor
