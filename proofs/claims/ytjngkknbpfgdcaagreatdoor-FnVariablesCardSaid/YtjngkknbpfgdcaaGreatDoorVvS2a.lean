import Derived.Test.YtjngkknbpfgdcaaGreatDoorVvS2
set_option linter.unusedVariables false
set_option linter.unusedSimpArgs false
set_option maxRecDepth 100000
set_option maxHeartbeats 8000000
namespace Go.Proofs.YtjngkknbpfgdcaaGreatDoor
open Go.RowKit
--%quiet
theorem QT (n i:Int) (t:cx) (lo hi:Int) (s:O):qx 45 s ⟨4,n,i,t,lo,hi⟩:=by
 intro S q w hs hv
 obtain⟨x0,x1,x2,x3,x4,x5,x6,x7,x8,x9,F,G,Z⟩:=s
 have js:=I hs
 obtain⟨A0,c0,A1,c1,A2,c2,A3,c3,A6,c6,A7,c7,A8,c8,hq,e0,e1,e2,e3,e4,e5,e6,e7,e8,e9,iE,jc,jd,fj,fm,fa,fb,ew,eL,eK,eV,eX,eY,fp,fq,fc,ff,g4,g5,g10,g11,g12,-,-,kp,-,-,-,-⟩:=cv.j8 hs
 clear hs
 have ga:¬q=w.heap.size:=aF
 have fx:=hv.t
 unfold maxLen at fx
 simp only at fx
 cases hw:dD ⟨4,n,i,t,lo,hi⟩
 case false =>
  have RR:=I (ix (s:=(O.mk x0 x1 x2 x3 x4 x5 x6 x7 x8 x9 F G Z)) hw)
  have HW:=I hw
  clear hw
  exact agx
 case true =>
  have HW:=I hw
  have hn:=il hw aF
  obtain⟨m,rfl⟩:=Int.eq_ofNat_of_zero_le hn
  have ki:=I (ie (s:=(O.mk x0 x1 x2 x3 x4 x5 x6 x7 x8 x9 F G Z)) hw (by show dP 4≠0;rw[qI];decide))
  clear hw
  rcases Nat.lt_or_ge m x2.length with jP | Gn
  ·
   have dX:U w w:=U.refl w
   (obtain⟨b1,o1,cz,cD,cE,cB,cF,l8,iz,jG,jD,gb,dS,gy,gF,kP,eN,fi,eO,ed,iF,fD,fE,fG,fK,fN⟩:=cr.el kp.out m jP dX;subst gb)
   have iH:¬b1=w.heap.size:=aF
   have oQ:(m:Int)<(x2.length:Int):=aF
   have oj:=ed.out.1
   have om:=ed.out.2.1
   simp only[ar]at oj
   unfold maxLen at om
   have HO:=I (jm (s:=(O.mk x0 x1 x2 x3 x4 x5 x6 x7 x8 x9 F G Z)) (v:=⟨4,m,i,t,lo,hi⟩) aR (show x2[(m:Int).toNat]=_ from gF.out))
   by_cases hk:cz=2
   ·
    subst hk
    have RR:=I (show eE (O.mk x0 x1 x2 x3 x4 x5 x6 x7 x8 x9 F G Z) ⟨4,m,i,t,lo,hi⟩=true by rw[ki.out,HO.out];simp only[cr.kind,cr.items,qI];simp)
    exact agy
   ·
    have fk:(cz != 2)=true:=aQ
    have RR:=I (show eE (O.mk x0 x1 x2 x3 x4 x5 x6 x7 x8 x9 F G Z) ⟨4,m,i,t,lo,hi⟩=false by rw[ki.out,HO.out];simp only[cr.kind,cr.items,qI];simp[hk])
    clear hk
    exact agy
  ·
   have RR:=I (ki.out.trans (jR aS))
   have dd:decide (x2.length<=m)=true:=cd
   exact agx
theorem QU (n i:Int) (t:cx) (lo hi:Int) (s:O):qx 45 s ⟨5,n,i,t,lo,hi⟩:=by
 intro S q w hs hv
 obtain⟨x0,x1,x2,x3,x4,x5,x6,x7,x8,x9,F,G,Z⟩:=s
 have js:=I hs
 obtain⟨A0,c0,A1,c1,A2,c2,A3,c3,A6,c6,A7,c7,A8,c8,hq,e0,e1,e2,e3,e4,e5,e6,e7,e8,e9,iE,jc,jd,fj,fm,fa,fb,ew,eL,eK,eV,eX,eY,fp,fq,fc,ff,g4,g5,g10,g11,g12,-,-,kp,-,-,-,-⟩:=cv.j8 hs
 clear hs
 have ga:¬q=w.heap.size:=aF
 have fx:=hv.t
 unfold maxLen at fx
 simp only at fx
 cases hw:dD ⟨5,n,i,t,lo,hi⟩
 case false =>
  have RR:=I (ix (s:=(O.mk x0 x1 x2 x3 x4 x5 x6 x7 x8 x9 F G Z)) hw)
  have HW:=I hw
  clear hw
  exact agz
 case true =>
  have HW:=I hw
  have hn:=il hw aF
  obtain⟨m,rfl⟩:=Int.eq_ofNat_of_zero_le hn
  have ki:=I (ie (s:=(O.mk x0 x1 x2 x3 x4 x5 x6 x7 x8 x9 F G Z)) hw (by show dP 5≠0;rw[mM];decide))
  clear hw
  rcases Nat.lt_or_ge m x2.length with jP | Gn
  ·
   have dX:U w w:=U.refl w
   (obtain⟨b1,o1,cz,cD,cE,cB,cF,l8,iz,jG,jD,gb,dS,gy,gF,kP,eN,fi,eO,ed,iF,fD,fE,fG,fK,fN⟩:=cr.el kp.out m jP dX;subst gb)
   have iH:¬b1=w.heap.size:=aF
   have oQ:(m:Int)<(x2.length:Int):=aF
   have oj:=ed.out.1
   have om:=ed.out.2.1
   simp only[ar]at oj
   unfold maxLen at om
   have HO:=I (jm (s:=(O.mk x0 x1 x2 x3 x4 x5 x6 x7 x8 x9 F G Z)) (v:=⟨5,m,i,t,lo,hi⟩) aR (show x2[(m:Int).toNat]=_ from gF.out))
   by_cases hk:cz=3
   ·
    subst hk
    have RR:=I (show eE (O.mk x0 x1 x2 x3 x4 x5 x6 x7 x8 x9 F G Z) ⟨5,m,i,t,lo,hi⟩=true by rw[ki.out,HO.out];simp only[cr.kind,cr.items,mM];simp)
    exact agA
   ·
    have fk:(cz != 3)=true:=aQ
    have RR:=I (show eE (O.mk x0 x1 x2 x3 x4 x5 x6 x7 x8 x9 F G Z) ⟨5,m,i,t,lo,hi⟩=false by rw[ki.out,HO.out];simp only[cr.kind,cr.items,mM];simp[hk])
    clear hk
    exact agA
  ·
   have RR:=I (ki.out.trans (jR aS))
   have dd:decide (x2.length<=m)=true:=cd
   exact agz
theorem QV (n i:Int) (t:cx) (lo hi:Int) (s:O):qx 45 s ⟨6,n,i,t,lo,hi⟩:=by
 intro S q w hs hv
 obtain⟨x0,x1,x2,x3,x4,x5,x6,x7,x8,x9,F,G,Z⟩:=s
 have js:=I hs
 obtain⟨A0,c0,A1,c1,A2,c2,A3,c3,A6,c6,A7,c7,A8,c8,hq,e0,e1,e2,e3,e4,e5,e6,e7,e8,e9,iE,jc,jd,fj,fm,fa,fb,ew,eL,eK,eV,eX,eY,fp,fq,fc,ff,g4,g5,g10,g11,g12,-,-,kp,-,-,-,-⟩:=cv.j8 hs
 clear hs
 have ga:¬q=w.heap.size:=aF
 have fx:=hv.t
 unfold maxLen at fx
 simp only at fx
 cases hw:dD ⟨6,n,i,t,lo,hi⟩
 case false =>
  have RR:=I (ix (s:=(O.mk x0 x1 x2 x3 x4 x5 x6 x7 x8 x9 F G Z)) hw)
  have HW:=I hw
  clear hw
  exact agB
 case true =>
  have HW:=I hw
  have hn:=il hw aF
  obtain⟨m,rfl⟩:=Int.eq_ofNat_of_zero_le hn
  have ki:=I (ie (s:=(O.mk x0 x1 x2 x3 x4 x5 x6 x7 x8 x9 F G Z)) hw (by show dP 6≠0;rw[qJ];decide))
  clear hw
  rcases Nat.lt_or_ge m x2.length with jP | Gn
  ·
   have dX:U w w:=U.refl w
   (obtain⟨b1,o1,cz,cD,cE,cB,cF,l8,iz,jG,jD,gb,dS,gy,gF,kP,eN,fi,eO,ed,iF,fD,fE,fG,fK,fN⟩:=cr.el kp.out m jP dX;subst gb)
   have iH:¬b1=w.heap.size:=aF
   have oQ:(m:Int)<(x2.length:Int):=aF
   have oj:=ed.out.1
   have om:=ed.out.2.1
   simp only[ar]at oj
   unfold maxLen at om
   have HO:=I (jm (s:=(O.mk x0 x1 x2 x3 x4 x5 x6 x7 x8 x9 F G Z)) (v:=⟨6,m,i,t,lo,hi⟩) aR (show x2[(m:Int).toNat]=_ from gF.out))
   by_cases hk:cz=4
   ·
    subst hk
    have RR:=I (show eE (O.mk x0 x1 x2 x3 x4 x5 x6 x7 x8 x9 F G Z) ⟨6,m,i,t,lo,hi⟩=true by rw[ki.out,HO.out];simp only[cr.kind,cr.items,qJ];simp)
    exact agC
   ·
    have fk:(cz != 4)=true:=aQ
    have RR:=I (show eE (O.mk x0 x1 x2 x3 x4 x5 x6 x7 x8 x9 F G Z) ⟨6,m,i,t,lo,hi⟩=false by rw[ki.out,HO.out];simp only[cr.kind,cr.items,qJ];simp[hk])
    clear hk
    exact agC
  ·
   have RR:=I (ki.out.trans (jR aS))
   have dd:decide (x2.length<=m)=true:=cd
   exact agB
theorem QW (n i:Int) (t:cx) (lo hi:Int) (s:O):qx 45 s ⟨7,n,i,t,lo,hi⟩:=by
 intro S q w hs hv
 obtain⟨x0,x1,x2,x3,x4,x5,x6,x7,x8,x9,F,G,Z⟩:=s
 have js:=I hs
 obtain⟨A0,c0,A1,c1,A2,c2,A3,c3,A6,c6,A7,c7,A8,c8,hq,e0,e1,e2,e3,e4,e5,e6,e7,e8,e9,iE,jc,jd,fj,fm,fa,fb,ew,eL,eK,eV,eX,eY,fp,fq,fc,ff,g4,g5,g10,g11,g12,-,-,kp,-,-,-,-⟩:=cv.j8 hs
 clear hs
 have ga:¬q=w.heap.size:=aF
 have fx:=hv.t
 unfold maxLen at fx
 simp only at fx
 cases hw:dD ⟨7,n,i,t,lo,hi⟩
 case false =>
  have RR:=I (ix (s:=(O.mk x0 x1 x2 x3 x4 x5 x6 x7 x8 x9 F G Z)) hw)
  have HW:=I hw
  clear hw
  exact agD
 case true =>
  have HW:=I hw
  have hn:=il hw aF
  obtain⟨m,rfl⟩:=Int.eq_ofNat_of_zero_le hn
  have ki:=I (ie (s:=(O.mk x0 x1 x2 x3 x4 x5 x6 x7 x8 x9 F G Z)) hw (by show dP 7≠0;rw[qL];decide))
  clear hw
  rcases Nat.lt_or_ge m x2.length with jP | Gn
  ·
   have dX:U w w:=U.refl w
   (obtain⟨b1,o1,cz,cD,cE,cB,cF,l8,iz,jG,jD,gb,dS,gy,gF,kP,eN,fi,eO,ed,iF,fD,fE,fG,fK,fN⟩:=cr.el kp.out m jP dX;subst gb)
   have iH:¬b1=w.heap.size:=aF
   have oQ:(m:Int)<(x2.length:Int):=aF
   have oj:=ed.out.1
   have om:=ed.out.2.1
   simp only[ar]at oj
   unfold maxLen at om
   have HO:=I (jm (s:=(O.mk x0 x1 x2 x3 x4 x5 x6 x7 x8 x9 F G Z)) (v:=⟨7,m,i,t,lo,hi⟩) aR (show x2[(m:Int).toNat]=_ from gF.out))
   by_cases hk:cz=5
   ·
    subst hk
    have RR:=I (show eE (O.mk x0 x1 x2 x3 x4 x5 x6 x7 x8 x9 F G Z) ⟨7,m,i,t,lo,hi⟩=true by rw[ki.out,HO.out];simp only[cr.kind,cr.items,qL];simp)
    exact agE
   ·
    have fk:(cz != 5)=true:=aQ
    have RR:=I (show eE (O.mk x0 x1 x2 x3 x4 x5 x6 x7 x8 x9 F G Z) ⟨7,m,i,t,lo,hi⟩=false by rw[ki.out,HO.out];simp only[cr.kind,cr.items,qL];simp[hk])
    clear hk
    exact agE
  ·
   have RR:=I (ki.out.trans (jR aS))
   have dd:decide (x2.length<=m)=true:=cd
   exact agD
end Go.Proofs.YtjngkknbpfgdcaaGreatDoor
