import Derived.Test.YtjngkknbpfgdcaaGreatDoorVvS5
set_option linter.unusedVariables false
set_option linter.unusedSimpArgs false
set_option maxRecDepth 100000
set_option maxHeartbeats 8000000
namespace Go.Proofs.YtjngkknbpfgdcaaGreatDoor
open Go.RowKit
theorem Hq (tag J:Int) (u1 u2:Int) (u3:cx) (u4 u5 v1 v2:Int) (v3:cx) (v4 v5:Int) (keys:List R) (s:O) (jM:J=0) (dn:tag=0) (cU:keys.length=0) (fR:eE s ⟨2,u1,u2,u3,u4,u5⟩=true) (iT:eE s ⟨1,v1,v2,v3,v4,v5⟩=true) (Hr:¬(1<=v1/\v1<=(u3.size:Int)+1)):lO 105 s (.mk 9 tag J [.mk 2 u1 u2 u3 u4 u5,.mk 1 v1 v2 v3 v4 v5] keys):=by
 intro S S' q w vs hs hv
 have HS:=I hs
 obtain⟨Ai,ci,Ak,ck,rfl,_,nc,Cn,gk,gm⟩:=cr.gK hv
 have lL:=I gk
 have rR:=I gm
 have mn:=gk.1
 have mU:=gk.2.1
 have lI:=gm.1
 have nf:=gm.2.1
 simp only[ar,aD,aE,Nat.reduceAdd]at mn lI
 unfold maxLen at mU nf
 clear gk gm hv
 obtain⟨x0,x1,x2,x3,x4,x5,x6,x7,x8,x9,F,G,Z⟩:=s
 have js:=I hs
 obtain⟨A0,c0,A1,c1,A2,c2,A3,c3,A6,c6,A7,c7,A8,c8,hq,e0,e1,e2,e3,e4,e5,e6,e7,e8,e9,iE,jc,jd,fj,fm,fa,fb,ew,eL,eK,eV,eX,eY,fp,fq,fc,ff,g4,g5,g10,g11,g12,-,qv,-,-,-,-,-⟩:=cv.j8 hs
 clear hs
 have ga:¬q=w.heap.size:=aF
 have dX:U w w:=U.refl w
 have qy:(J != 0)=false:=aL
 (obtain⟨b1,o1,cz,cD,cE,cB,cF,cO,gb,dS,gy,gF,kP,eN,fi,eO,fT,gD,gE,fD,fE,fG,fK,fN,jy⟩:=R.e0 lL.out aJ dX;subst gb)
 (obtain⟨b2,o2,da,dw,dx,dy,dz,dA,mO,mu,nn,od,vz,kv,kz,kA,iw,kD,kE,jS,jT,jU,jV,jW,j1⟩:=R.e1 lL.out aJ dX;injection Option.some.inj mO with qb2 tm _;subst qb2 tm)
 obtain⟨rfl,rfl,rfl,rfl,rfl,rfl⟩:=R.mk.inj (show R.mk 2 u1 u2 u3 u4 u5=.mk cz cD cE cB cF cO from gF.out)
 have Bi:=I fT
 unfold maxLen at fT
 obtain⟨rfl,rfl,rfl,rfl,rfl,rfl⟩:=R.mk.inj (show R.mk 1 v1 v2 v3 v4 v5=.mk da dw dx dy dz dA from od.out)
 have Ed:=I iw
 unfold maxLen at iw
 have iH:¬b1=w.heap.size:=aF
 have hu3:u3.size<=120:=by
  exact KQ
 have Gh:IntKind.i64.wrap ((u3.size:Int)+1)=(u3.size:Int)+1:=bs
 have RR:=I (show cT (O.mk x0 x1 x2 x3 x4 x5 x6 x7 x8 x9 F G Z) (.mk 9 tag J [.mk 2 u1 u2 u3 u4 u5,.mk 1 v1 v2 v3 v4 v5] keys)=false by rw[iD];refine Bool.eq_false_iff.2 fun hh=>?_;simp only[Bool.and_eq_true,decide_eq_true_eq]at hh;(try simp only[cJ,cL,R.v]at hh);omega)
 have dQ:(tag==0)=true:=aK
 have dR:(tag != 0)=false:=aL
 have cW:((keys.length:Int)==0)=true:=aK
 have cX:((keys.length:Int) != 0)=false:=aL
 clear dn cU jM
 have kG:=I fR
 clear fR
 have oJ:=I iT
 clear iT
 have YI:=I (show (decide (1<=v1)&&decide (v1<=(u3.size:Int)+1))=false by simp;omega)
 exact ag4
theorem Hs (tag J:Int) (u1 u2:Int) (u3:cx) (u4 u5 v1 v2:Int) (v3:cx) (v4 v5:Int) (keys:List R) (s:O) (jM:J=0) (dn:tag=0) (cU:keys.length=0) (fR:eE s ⟨2,u1,u2,u3,u4,u5⟩=true) (iT:eE s ⟨1,v1,v2,v3,v4,v5⟩=true) (Hr:1<=v1/\v1<=(u3.size:Int)+1):lO 105 s (.mk 9 tag J [.mk 2 u1 u2 u3 u4 u5,.mk 1 v1 v2 v3 v4 v5] keys):=by
 intro S S' q w vs hs hv
 have HS:=I hs
 obtain⟨Ai,ci,Ak,ck,rfl,_,nc,Cn,gk,gm⟩:=cr.gK hv
 have lL:=I gk
 have rR:=I gm
 have mn:=gk.1
 have mU:=gk.2.1
 have lI:=gm.1
 have nf:=gm.2.1
 simp only[ar,aD,aE,Nat.reduceAdd]at mn lI
 unfold maxLen at mU nf
 clear gk gm hv
 obtain⟨x0,x1,x2,x3,x4,x5,x6,x7,x8,x9,F,G,Z⟩:=s
 have js:=I hs
 obtain⟨A0,c0,A1,c1,A2,c2,A3,c3,A6,c6,A7,c7,A8,c8,hq,e0,e1,e2,e3,e4,e5,e6,e7,e8,e9,iE,jc,jd,fj,fm,fa,fb,ew,eL,eK,eV,eX,eY,fp,fq,fc,ff,g4,g5,g10,g11,g12,-,qv,-,-,-,-,-⟩:=cv.j8 hs
 clear hs
 have ga:¬q=w.heap.size:=aF
 have dX:U w w:=U.refl w
 have qy:(J != 0)=false:=aL
 (obtain⟨b1,o1,cz,cD,cE,cB,cF,cO,gb,dS,gy,gF,kP,eN,fi,eO,fT,gD,gE,fD,fE,fG,fK,fN,jy⟩:=R.e0 lL.out aJ dX;subst gb)
 (obtain⟨b2,o2,da,dw,dx,dy,dz,dA,mO,mu,nn,od,vz,kv,kz,kA,iw,kD,kE,jS,jT,jU,jV,jW,j1⟩:=R.e1 lL.out aJ dX;injection Option.some.inj mO with qb2 tm _;subst qb2 tm)
 obtain⟨rfl,rfl,rfl,rfl,rfl,rfl⟩:=R.mk.inj (show R.mk 2 u1 u2 u3 u4 u5=.mk cz cD cE cB cF cO from gF.out)
 have Bi:=I fT
 unfold maxLen at fT
 obtain⟨rfl,rfl,rfl,rfl,rfl,rfl⟩:=R.mk.inj (show R.mk 1 v1 v2 v3 v4 v5=.mk da dw dx dy dz dA from od.out)
 have Ed:=I iw
 unfold maxLen at iw
 have iH:¬b1=w.heap.size:=aF
 have hu3:u3.size<=120:=by
  exact KQ
 have Gh:IntKind.i64.wrap ((u3.size:Int)+1)=(u3.size:Int)+1:=bs
 have RR:=I (show cT (O.mk x0 x1 x2 x3 x4 x5 x6 x7 x8 x9 F G Z) (.mk 9 tag J [.mk 2 u1 u2 u3 u4 u5,.mk 1 v1 v2 v3 v4 v5] keys)=true by rw[iD];simp only[Bool.and_eq_true,decide_eq_true_eq];(try simp only[cJ,cL,R.v]);(repeat' apply And.intro) <;> first | assumption | trivial | omega)
 have dQ:(tag==0)=true:=aK
 have dR:(tag != 0)=false:=aL
 have cW:((keys.length:Int)==0)=true:=aK
 have cX:((keys.length:Int) != 0)=false:=aL
 clear dn cU jM
 have kG:=I fR
 clear fR
 have oJ:=I iT
 clear iT
 have YI:=I (show (decide (1<=v1)&&decide (v1<=(u3.size:Int)+1))=true by simp;omega)
 exact ag4
end Go.Proofs.YtjngkknbpfgdcaaGreatDoor
