import Derived.Test.YtjngkknbpfgdcaaGreatDoorVvS5bz
set_option linter.unusedVariables false
set_option linter.unusedSimpArgs false
set_option maxRecDepth 100000
set_option maxHeartbeats 8000000
namespace Go.Proofs.YtjngkknbpfgdcaaGreatDoor
open Go.RowKit
--%quiet
theorem HJ (tag J:Int) (its keys:List R) (s:O) (dn:tag=0) (fH:keys.length<=40):lO 41 s (.mk 3 tag J its keys):=by
 intro S S' q w vs hs hv
 have HS:=I hs
 obtain⟨Ai,ci,Ak,ck,rfl,_,nc,jM,gk,gm⟩:=cr.gK hv
 have lL:=I gk
 have rR:=I gm
 have mn:=gk.1
 have mU:=gk.2.1
 have lI:=gm.1
 have nf:=gm.2.1
 simp only[ar]at mn lI
 unfold maxLen at mU nf
 clear gk gm hv
 obtain⟨x0,x1,x2,x3,x4,x5,x6,x7,x8,x9,F,G,Z⟩:=s
 have js:=I hs
 obtain⟨A0,c0,A1,c1,A2,c2,A3,c3,A6,c6,A7,c7,A8,c8,hq,e0,e1,e2,e3,e4,e5,e6,e7,e8,e9,iE,jc,jd,fj,fm,fa,fb,ew,eL,eK,eV,eX,eY,fp,fq,fc,ff,g4,g5,g10,g11,g12,-,qv,-,-,-,-,-⟩:=cv.j8 hs
 clear hs
 have ga:¬q=w.heap.size:=aF
 have dX:U w w:=U.refl w
 by_cases rZ:J<1
 case pos =>
  exact K2
 case neg =>
 have qy:decide (J<1)=false:=aH
 by_cases Ba:Z<J
 case pos =>
  exact K3
 case neg =>
 have zI:decide (Z<J)=false:=aH
 cases ju:mv keys
 case false =>
  by_cases kI:its.length=keys.length+1
  case neg =>
   have RR:=I (show cT (O.mk x0 x1 x2 x3 x4 x5 x6 x7 x8 x9 F G Z) (.mk 3 tag J its keys)=false by rw[im];(try simp only[O.cy,O.cu,cJ,cL,cP]);rw[ju];simp)
   have dQ:(tag==0)=true:=aK
   have dR:(tag != 0)=false:=aL
   exact Y9
  case pos =>
  cases eS:fS (O.mk x0 x1 x2 x3 x4 x5 x6 x7 x8 x9 F G Z) its
  case false =>
   exact Za
  case true =>
  exact Za
 case true =>
 cases ib:fS (O.mk x0 x1 x2 x3 x4 x5 x6 x7 x8 x9 F G Z) keys
 case false =>
  by_cases kI:its.length=keys.length+1
  case neg =>
   have RR:=I (show cT (O.mk x0 x1 x2 x3 x4 x5 x6 x7 x8 x9 F G Z) (.mk 3 tag J its keys)=false by rw[im];(try simp only[O.cy,O.cu,cJ,cL,cP]);rw[ib];simp)
   have dQ:(tag==0)=true:=aK
   have dR:(tag != 0)=false:=aL
   exact K4
  case pos =>
  cases eS:fS (O.mk x0 x1 x2 x3 x4 x5 x6 x7 x8 x9 F G Z) its
  case false =>
   have RR:=I (show cT (O.mk x0 x1 x2 x3 x4 x5 x6 x7 x8 x9 F G Z) (.mk 3 tag J its keys)=false by rw[im];(try simp only[O.cy,O.cu,cJ,cL,cP]);rw[ib];simp)
   exact K5
  case true =>
  have RR:=I (show cT (O.mk x0 x1 x2 x3 x4 x5 x6 x7 x8 x9 F G Z) (.mk 3 tag J its keys)=false by rw[im];(try simp only[O.cy,O.cu,cJ,cL,cP]);rw[ib];simp)
  exact K5
 case true =>
 by_cases kI:its.length=keys.length+1
 case neg =>
  have RR:=I (show cT (O.mk x0 x1 x2 x3 x4 x5 x6 x7 x8 x9 F G Z) (.mk 3 tag J its keys)=false by rw[im];(try simp only[O.cy,O.cu,cJ,cL,cP]);simp[kI])
  have dQ:(tag==0)=true:=aK
  have dR:(tag != 0)=false:=aL
  exact K4
 case pos =>
 cases eS:fS (O.mk x0 x1 x2 x3 x4 x5 x6 x7 x8 x9 F G Z) its
 case false =>
  have RR:=I (show cT (O.mk x0 x1 x2 x3 x4 x5 x6 x7 x8 x9 F G Z) (.mk 3 tag J its keys)=false by rw[im];(try simp only[O.cy,O.cu,cJ,cL,cP]);rw[eS];simp)
  exact K5
 case true =>
 have RR:=I (show cT (O.mk x0 x1 x2 x3 x4 x5 x6 x7 x8 x9 F G Z) (.mk 3 tag J its keys)=true by rw[im];(try simp only[O.cy,O.cu,cJ,cL,cP]);(try simp only[R.v]);simp only[Bool.and_eq_true,decide_eq_true_eq];(repeat' apply And.intro) <;> first | assumption | trivial | exact ay ⟨by omega,by omega⟩ | exact ay aF | rfl | omega)
 exact K5
theorem H5 (tag J:Int) (its keys:List R) (s:O) (dn:¬tag=0) (fH:¬keys.length<=40):lO 41 s (.mk 3 tag J its keys):=by
 intro S S' q w vs hs hv
 have HS:=I hs
 obtain⟨Ai,ci,Ak,ck,rfl,_,nc,jM,gk,gm⟩:=cr.gK hv
 have lL:=I gk
 have rR:=I gm
 have mn:=gk.1
 have mU:=gk.2.1
 have lI:=gm.1
 have nf:=gm.2.1
 simp only[ar]at mn lI
 unfold maxLen at mU nf
 clear gk gm hv
 obtain⟨x0,x1,x2,x3,x4,x5,x6,x7,x8,x9,F,G,Z⟩:=s
 have js:=I hs
 obtain⟨A0,c0,A1,c1,A2,c2,A3,c3,A6,c6,A7,c7,A8,c8,hq,e0,e1,e2,e3,e4,e5,e6,e7,e8,e9,iE,jc,jd,fj,fm,fa,fb,ew,eL,eK,eV,eX,eY,fp,fq,fc,ff,g4,g5,g10,g11,g12,-,qv,-,-,-,-,-⟩:=cv.j8 hs
 clear hs
 have ga:¬q=w.heap.size:=aF
 have dX:U w w:=U.refl w
 by_cases rZ:J<1
 case pos =>
  exact K2
 case neg =>
 have qy:decide (J<1)=false:=aH
 by_cases Ba:Z<J
 case pos =>
  exact K3
 case neg =>
 have zI:decide (Z<J)=false:=aH
 by_cases kI:its.length=keys.length+1
 case neg =>
  have RR:=I (show cT (O.mk x0 x1 x2 x3 x4 x5 x6 x7 x8 x9 F G Z) (.mk 3 tag J its keys)=false by rw[im];(try simp only[O.cy,O.cu,cJ,cL,cP]);simp[dn])
  have dQ:(tag==0)=false:=aN
  have dR:(tag != 0)=true:=aM
  exact Zb
 case pos =>
 cases eS:fS (O.mk x0 x1 x2 x3 x4 x5 x6 x7 x8 x9 F G Z) its
 case false =>
  have RR:=I (show cT (O.mk x0 x1 x2 x3 x4 x5 x6 x7 x8 x9 F G Z) (.mk 3 tag J its keys)=false by rw[im];(try simp only[O.cy,O.cu,cJ,cL,cP]);simp[dn])
  have dQ:(tag==0)=false:=aN
  have dR:(tag != 0)=true:=aM
  exact K6
 case true =>
 have RR:=I (show cT (O.mk x0 x1 x2 x3 x4 x5 x6 x7 x8 x9 F G Z) (.mk 3 tag J its keys)=false by rw[im];(try simp only[O.cy,O.cu,cJ,cL,cP]);simp[dn])
 have dQ:(tag==0)=false:=aN
 have dR:(tag != 0)=true:=aM
 exact K6
--%quiet
theorem H2 (tag J:Int) (its keys:List R) (s:O) (dn:¬tag=0) (fH:keys.length<=40):lO 41 s (.mk 3 tag J its keys):=by
 intro S S' q w vs hs hv
 have HS:=I hs
 obtain⟨Ai,ci,Ak,ck,rfl,_,nc,jM,gk,gm⟩:=cr.gK hv
 have lL:=I gk
 have rR:=I gm
 have mn:=gk.1
 have mU:=gk.2.1
 have lI:=gm.1
 have nf:=gm.2.1
 simp only[ar]at mn lI
 unfold maxLen at mU nf
 clear gk gm hv
 obtain⟨x0,x1,x2,x3,x4,x5,x6,x7,x8,x9,F,G,Z⟩:=s
 have js:=I hs
 obtain⟨A0,c0,A1,c1,A2,c2,A3,c3,A6,c6,A7,c7,A8,c8,hq,e0,e1,e2,e3,e4,e5,e6,e7,e8,e9,iE,jc,jd,fj,fm,fa,fb,ew,eL,eK,eV,eX,eY,fp,fq,fc,ff,g4,g5,g10,g11,g12,-,qv,-,-,-,-,-⟩:=cv.j8 hs
 clear hs
 have ga:¬q=w.heap.size:=aF
 have dX:U w w:=U.refl w
 by_cases rZ:J<1
 case pos =>
  exact K2
 case neg =>
 have qy:decide (J<1)=false:=aH
 by_cases Ba:Z<J
 case pos =>
  exact K3
 case neg =>
 have zI:decide (Z<J)=false:=aH
 cases ju:mv keys
 case false =>
  by_cases kI:its.length=keys.length+1
  case neg =>
   have RR:=I (show cT (O.mk x0 x1 x2 x3 x4 x5 x6 x7 x8 x9 F G Z) (.mk 3 tag J its keys)=false by rw[im];(try simp only[O.cy,O.cu,cJ,cL,cP]);simp[dn])
   have dQ:(tag==0)=false:=aN
   have dR:(tag != 0)=true:=aM
   exact Y9
  case pos =>
  cases eS:fS (O.mk x0 x1 x2 x3 x4 x5 x6 x7 x8 x9 F G Z) its
  case false =>
   exact Zc
  case true =>
  exact Zc
 case true =>
 cases ib:fS (O.mk x0 x1 x2 x3 x4 x5 x6 x7 x8 x9 F G Z) keys
 case false =>
  by_cases kI:its.length=keys.length+1
  case neg =>
   have RR:=I (show cT (O.mk x0 x1 x2 x3 x4 x5 x6 x7 x8 x9 F G Z) (.mk 3 tag J its keys)=false by rw[im];(try simp only[O.cy,O.cu,cJ,cL,cP]);simp[dn])
   have dQ:(tag==0)=false:=aN
   have dR:(tag != 0)=true:=aM
   exact K4
  case pos =>
  cases eS:fS (O.mk x0 x1 x2 x3 x4 x5 x6 x7 x8 x9 F G Z) its
  case false =>
   exact K7
  case true =>
  exact K7
 case true =>
 by_cases kI:its.length=keys.length+1
 case neg =>
  have RR:=I (show cT (O.mk x0 x1 x2 x3 x4 x5 x6 x7 x8 x9 F G Z) (.mk 3 tag J its keys)=false by rw[im];(try simp only[O.cy,O.cu,cJ,cL,cP]);simp[dn])
  have dQ:(tag==0)=false:=aN
  have dR:(tag != 0)=true:=aM
  exact K4
 case pos =>
 cases eS:fS (O.mk x0 x1 x2 x3 x4 x5 x6 x7 x8 x9 F G Z) its
 case false =>
  exact K7
 case true =>
 exact K7
theorem H0 (tag J:Int) (its keys:List R) (s:O) (dn:tag=0) (fH:¬keys.length<=40):lO 41 s (.mk 3 tag J its keys):=by
 intro S S' q w vs hs hv
 have HS:=I hs
 obtain⟨Ai,ci,Ak,ck,rfl,_,nc,jM,gk,gm⟩:=cr.gK hv
 have lL:=I gk
 have rR:=I gm
 have mn:=gk.1
 have mU:=gk.2.1
 have lI:=gm.1
 have nf:=gm.2.1
 simp only[ar]at mn lI
 unfold maxLen at mU nf
 clear gk gm hv
 obtain⟨x0,x1,x2,x3,x4,x5,x6,x7,x8,x9,F,G,Z⟩:=s
 have js:=I hs
 obtain⟨A0,c0,A1,c1,A2,c2,A3,c3,A6,c6,A7,c7,A8,c8,hq,e0,e1,e2,e3,e4,e5,e6,e7,e8,e9,iE,jc,jd,fj,fm,fa,fb,ew,eL,eK,eV,eX,eY,fp,fq,fc,ff,g4,g5,g10,g11,g12,-,qv,-,-,-,-,-⟩:=cv.j8 hs
 clear hs
 have ga:¬q=w.heap.size:=aF
 have dX:U w w:=U.refl w
 by_cases rZ:J<1
 case pos =>
  exact K2
 case neg =>
 have qy:decide (J<1)=false:=aH
 by_cases Ba:Z<J
 case pos =>
  exact K3
 case neg =>
 have zI:decide (Z<J)=false:=aH
 by_cases kI:its.length=keys.length+1
 case neg =>
  have RR:=I (show cT (O.mk x0 x1 x2 x3 x4 x5 x6 x7 x8 x9 F G Z) (.mk 3 tag J its keys)=false by rw[im];(try simp only[O.cy,O.cu,cJ,cL,cP]);simp[fH])
  have dQ:(tag==0)=true:=aK
  have dR:(tag != 0)=false:=aL
  exact Zb
 case pos =>
 cases eS:fS (O.mk x0 x1 x2 x3 x4 x5 x6 x7 x8 x9 F G Z) its
 case false =>
  have RR:=I (show cT (O.mk x0 x1 x2 x3 x4 x5 x6 x7 x8 x9 F G Z) (.mk 3 tag J its keys)=false by rw[im];(try simp only[O.cy,O.cu,cJ,cL,cP]);simp[fH])
  have dQ:(tag==0)=true:=aK
  have dR:(tag != 0)=false:=aL
  exact K6
 case true =>
 have RR:=I (show cT (O.mk x0 x1 x2 x3 x4 x5 x6 x7 x8 x9 F G Z) (.mk 3 tag J its keys)=false by rw[im];(try simp only[O.cy,O.cu,cJ,cL,cP]);simp[fH])
 have dQ:(tag==0)=true:=aK
 have dR:(tag != 0)=false:=aL
 exact K6
end Go.Proofs.YtjngkknbpfgdcaaGreatDoor
