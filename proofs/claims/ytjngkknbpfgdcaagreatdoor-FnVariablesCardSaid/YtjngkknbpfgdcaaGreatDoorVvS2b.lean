import Derived.Test.YtjngkknbpfgdcaaGreatDoorVvS2
set_option linter.unusedVariables false
set_option linter.unusedSimpArgs false
set_option maxRecDepth 100000
set_option maxHeartbeats 8000000
namespace Go.Proofs.YtjngkknbpfgdcaaGreatDoor
open Go.RowKit
--%quiet
theorem Na (n i:Int) (t:cx) (lo hi:Int) (s:O):qx 45 s ⟨11,n,i,t,lo,hi⟩:=by
 intro S q w hs hv
 obtain⟨x0,x1,x2,x3,x4,x5,x6,x7,x8,x9,F,G,Z⟩:=s
 have js:=I hs
 obtain⟨A0,c0,A1,c1,A2,c2,A3,c3,A6,c6,A7,c7,A8,c8,hq,e0,e1,e2,e3,e4,e5,e6,e7,e8,e9,iE,jc,jd,fj,fm,fa,fb,ew,eL,eK,eV,eX,eY,fp,fq,fc,ff,g4,g5,g10,g11,g12,-,-,kp,-,-,-,-⟩:=cv.j8 hs
 clear hs
 have ga:¬q=w.heap.size:=aF
 have fx:=hv.t
 unfold maxLen at fx
 simp only at fx
 cases hw:dD ⟨11,n,i,t,lo,hi⟩
 case false =>
  have RR:=I (ix (s:=(O.mk x0 x1 x2 x3 x4 x5 x6 x7 x8 x9 F G Z)) hw)
  have HW:=I hw
  clear hw
  exact agF
 case true =>
  have HW:=I hw
  have hn:=il hw aF
  obtain⟨m,rfl⟩:=Int.eq_ofNat_of_zero_le hn
  have ki:=I (ie (s:=(O.mk x0 x1 x2 x3 x4 x5 x6 x7 x8 x9 F G Z)) hw (by show dP 11≠0;rw[oD];decide))
  clear hw
  rcases Nat.lt_or_ge m x2.length with jP | Gn
  ·
   have dX:U w w:=U.refl w
   (obtain⟨b1,o1,cz,cD,cE,cB,cF,l8,iz,jG,jD,gb,dS,gy,gF,kP,eN,fi,eO,ed,iF,fD,fE,fG,fK,fN⟩:=cr.el kp.out m jP dX;subst gb)
   have iH:¬b1=w.heap.size:=aF
   have oQ:(m:Int)<(x2.length:Int):=aF
   have oj:=ed.out.1
   have om:=ed.out.2.1
   simp only[ar]at oj
   unfold maxLen at om
   have HO:=I (jm (s:=(O.mk x0 x1 x2 x3 x4 x5 x6 x7 x8 x9 F G Z)) (v:=⟨11,m,i,t,lo,hi⟩) aR (show x2[(m:Int).toNat]=_ from gF.out))
   by_cases hk:cz=6
   ·
    subst hk
    have RR:=I (show eE (O.mk x0 x1 x2 x3 x4 x5 x6 x7 x8 x9 F G Z) ⟨11,m,i,t,lo,hi⟩=true by rw[ki.out,HO.out];simp only[cr.kind,cr.items,oD];simp)
    exact agG
   ·
    have fk:(cz != 6)=true:=aQ
    have RR:=I (show eE (O.mk x0 x1 x2 x3 x4 x5 x6 x7 x8 x9 F G Z) ⟨11,m,i,t,lo,hi⟩=false by rw[ki.out,HO.out];simp only[cr.kind,cr.items,oD];simp[hk])
    clear hk
    exact agG
  ·
   have RR:=I (ki.out.trans (jR aS))
   have dd:decide (x2.length<=m)=true:=cd
   exact agF
theorem Nb (n i:Int) (t:cx) (lo hi:Int) (s:O):qx 45 s ⟨12,n,i,t,lo,hi⟩:=by
 intro S q w hs hv
 obtain⟨x0,x1,x2,x3,x4,x5,x6,x7,x8,x9,F,G,Z⟩:=s
 have js:=I hs
 obtain⟨A0,c0,A1,c1,A2,c2,A3,c3,A6,c6,A7,c7,A8,c8,hq,e0,e1,e2,e3,e4,e5,e6,e7,e8,e9,iE,jc,jd,fj,fm,fa,fb,ew,eL,eK,eV,eX,eY,fp,fq,fc,ff,g4,g5,g10,g11,g12,-,-,kp,-,-,-,-⟩:=cv.j8 hs
 clear hs
 have ga:¬q=w.heap.size:=aF
 have fx:=hv.t
 unfold maxLen at fx
 simp only at fx
 cases hw:dD ⟨12,n,i,t,lo,hi⟩
 case false =>
  have RR:=I (ix (s:=(O.mk x0 x1 x2 x3 x4 x5 x6 x7 x8 x9 F G Z)) hw)
  have HW:=I hw
  clear hw
  exact agH
 case true =>
  have HW:=I hw
  have hn:=il hw aF
  obtain⟨m,rfl⟩:=Int.eq_ofNat_of_zero_le hn
  have ki:=I (ie (s:=(O.mk x0 x1 x2 x3 x4 x5 x6 x7 x8 x9 F G Z)) hw (by show dP 12≠0;rw[oE];decide))
  clear hw
  rcases Nat.lt_or_ge m x2.length with jP | Gn
  ·
   have dX:U w w:=U.refl w
   (obtain⟨b1,o1,cz,cD,cE,cB,cF,l8,iz,jG,jD,gb,dS,gy,gF,kP,eN,fi,eO,ed,iF,fD,fE,fG,fK,fN⟩:=cr.el kp.out m jP dX;subst gb)
   have iH:¬b1=w.heap.size:=aF
   have oQ:(m:Int)<(x2.length:Int):=aF
   have oj:=ed.out.1
   have om:=ed.out.2.1
   simp only[ar]at oj
   unfold maxLen at om
   have HO:=I (jm (s:=(O.mk x0 x1 x2 x3 x4 x5 x6 x7 x8 x9 F G Z)) (v:=⟨12,m,i,t,lo,hi⟩) aR (show x2[(m:Int).toNat]=_ from gF.out))
   by_cases hk:cz=7
   ·
    subst hk
    have RR:=I (show eE (O.mk x0 x1 x2 x3 x4 x5 x6 x7 x8 x9 F G Z) ⟨12,m,i,t,lo,hi⟩=true by rw[ki.out,HO.out];simp only[cr.kind,cr.items,oE];simp)
    exact agI
   ·
    have fk:(cz != 7)=true:=aQ
    have RR:=I (show eE (O.mk x0 x1 x2 x3 x4 x5 x6 x7 x8 x9 F G Z) ⟨12,m,i,t,lo,hi⟩=false by rw[ki.out,HO.out];simp only[cr.kind,cr.items,oE];simp[hk])
    clear hk
    exact agI
  ·
   have RR:=I (ki.out.trans (jR aS))
   have dd:decide (x2.length<=m)=true:=cd
   exact agH
theorem Nc (n i:Int) (t:cx) (lo hi:Int) (s:O):qx 45 s ⟨13,n,i,t,lo,hi⟩:=by
 intro S q w hs hv
 obtain⟨x0,x1,x2,x3,x4,x5,x6,x7,x8,x9,F,G,Z⟩:=s
 have js:=I hs
 obtain⟨A0,c0,A1,c1,A2,c2,A3,c3,A6,c6,A7,c7,A8,c8,hq,e0,e1,e2,e3,e4,e5,e6,e7,e8,e9,iE,jc,jd,fj,fm,fa,fb,ew,eL,eK,eV,eX,eY,fp,fq,fc,ff,g4,g5,g10,g11,g12,-,-,kp,-,-,-,-⟩:=cv.j8 hs
 clear hs
 have ga:¬q=w.heap.size:=aF
 have fx:=hv.t
 unfold maxLen at fx
 simp only at fx
 cases hw:dD ⟨13,n,i,t,lo,hi⟩
 case false =>
  have RR:=I (ix (s:=(O.mk x0 x1 x2 x3 x4 x5 x6 x7 x8 x9 F G Z)) hw)
  have HW:=I hw
  clear hw
  exact agJ
 case true =>
  have HW:=I hw
  have hn:=il hw aF
  obtain⟨m,rfl⟩:=Int.eq_ofNat_of_zero_le hn
  have ki:=I (ie (s:=(O.mk x0 x1 x2 x3 x4 x5 x6 x7 x8 x9 F G Z)) hw (by show dP 13≠0;rw[mC];decide))
  have jh:=jr hw aF
  clear hw
  rcases Nat.lt_or_ge m x2.length with jP | Gn
  ·
   have dX:U w w:=U.refl w
   (obtain⟨b1,o1,cz,cD,cE,cB,cF,l8,iz,jG,jD,gb,dS,gy,gF,kP,eN,fi,eO,ed,iF,fD,fE,fG,fK,fN⟩:=cr.el kp.out m jP dX;subst gb)
   have iH:¬b1=w.heap.size:=aF
   have oQ:(m:Int)<(x2.length:Int):=aF
   have oj:=ed.out.1
   have om:=ed.out.2.1
   simp only[ar]at oj
   unfold maxLen at om
   have HO:=I (jm (s:=(O.mk x0 x1 x2 x3 x4 x5 x6 x7 x8 x9 F G Z)) (v:=⟨13,m,i,t,lo,hi⟩) aR (show x2[(m:Int).toNat]=_ from gF.out))
   by_cases hk:cz=1
   ·
    subst hk
    by_cases Gk:i<(cB.length:Int)
    ·
     have RR:=I (show eE (O.mk x0 x1 x2 x3 x4 x5 x6 x7 x8 x9 F G Z) ⟨13,m,i,t,lo,hi⟩=true by rw[ki.out,HO.out];simp only[cr.kind,cr.items,mC];simp[Gk])
     have di:decide (i<(cB.length:Int))=true:=ch
     exact abv
    ·
     have RR:=I (show eE (O.mk x0 x1 x2 x3 x4 x5 x6 x7 x8 x9 F G Z) ⟨13,m,i,t,lo,hi⟩=false by rw[ki.out,HO.out];simp only[cr.kind,cr.items,mC];simp[Gk])
     have di:decide (i<(cB.length:Int))=false:=ch
     exact abv
   ·
    have fk:(cz != 1)=true:=aQ
    have RR:=I (show eE (O.mk x0 x1 x2 x3 x4 x5 x6 x7 x8 x9 F G Z) ⟨13,m,i,t,lo,hi⟩=false by rw[ki.out,HO.out];simp only[cr.kind,cr.items,mC];simp[hk])
    clear hk
    exact abv
  ·
   have RR:=I (ki.out.trans (jR aS))
   have dd:decide (x2.length<=m)=true:=cd
   exact agJ
theorem Nd (n i:Int) (t:cx) (lo hi:Int) (s:O):qx 45 s ⟨15,n,i,t,lo,hi⟩:=by
 intro S q w hs hv
 obtain⟨x0,x1,x2,x3,x4,x5,x6,x7,x8,x9,F,G,Z⟩:=s
 have js:=I hs
 obtain⟨A0,c0,A1,c1,A2,c2,A3,c3,A6,c6,A7,c7,A8,c8,hq,e0,e1,e2,e3,e4,e5,e6,e7,e8,e9,iE,jc,jd,fj,fm,fa,fb,ew,eL,eK,eV,eX,eY,fp,fq,fc,ff,g4,g5,g10,g11,g12,-,-,kp,-,-,-,-⟩:=cv.j8 hs
 clear hs
 have ga:¬q=w.heap.size:=aF
 have fx:=hv.t
 unfold maxLen at fx
 simp only at fx
 cases hw:dD ⟨15,n,i,t,lo,hi⟩
 case false =>
  have RR:=I (ix (s:=(O.mk x0 x1 x2 x3 x4 x5 x6 x7 x8 x9 F G Z)) hw)
  have HW:=I hw
  clear hw
  exact agK
 case true =>
  have HW:=I hw
  have hn:=il hw aF
  obtain⟨m,rfl⟩:=Int.eq_ofNat_of_zero_le hn
  have ki:=I (ie (s:=(O.mk x0 x1 x2 x3 x4 x5 x6 x7 x8 x9 F G Z)) hw (by show dP 15≠0;rw[oF];decide))
  clear hw
  rcases Nat.lt_or_ge m x2.length with jP | Gn
  ·
   have dX:U w w:=U.refl w
   (obtain⟨b1,o1,cz,cD,cE,cB,cF,l8,iz,jG,jD,gb,dS,gy,gF,kP,eN,fi,eO,ed,iF,fD,fE,fG,fK,fN⟩:=cr.el kp.out m jP dX;subst gb)
   have iH:¬b1=w.heap.size:=aF
   have oQ:(m:Int)<(x2.length:Int):=aF
   have oj:=ed.out.1
   have om:=ed.out.2.1
   simp only[ar]at oj
   unfold maxLen at om
   have HO:=I (jm (s:=(O.mk x0 x1 x2 x3 x4 x5 x6 x7 x8 x9 F G Z)) (v:=⟨15,m,i,t,lo,hi⟩) aR (show x2[(m:Int).toNat]=_ from gF.out))
   by_cases hk:cz=2
   ·
    subst hk
    have RR:=I (show eE (O.mk x0 x1 x2 x3 x4 x5 x6 x7 x8 x9 F G Z) ⟨15,m,i,t,lo,hi⟩=true by rw[ki.out,HO.out];simp only[cr.kind,cr.items,oF];simp)
    exact agL
   ·
    have fk:(cz != 2)=true:=aQ
    have RR:=I (show eE (O.mk x0 x1 x2 x3 x4 x5 x6 x7 x8 x9 F G Z) ⟨15,m,i,t,lo,hi⟩=false by rw[ki.out,HO.out];simp only[cr.kind,cr.items,oF];simp[hk])
    clear hk
    exact agL
  ·
   have RR:=I (ki.out.trans (jR aS))
   have dd:decide (x2.length<=m)=true:=cd
   exact agK
--%quiet
theorem Nf (n i:Int) (t:cx) (lo hi:Int) (s:O):qx 45 s ⟨16,n,i,t,lo,hi⟩:=by
 intro S q w hs hv
 obtain⟨x0,x1,x2,x3,x4,x5,x6,x7,x8,x9,F,G,Z⟩:=s
 have js:=I hs
 obtain⟨A0,c0,A1,c1,A2,c2,A3,c3,A6,c6,A7,c7,A8,c8,hq,e0,e1,e2,e3,e4,e5,e6,e7,e8,e9,iE,jc,jd,fj,fm,fa,fb,ew,eL,eK,eV,eX,eY,fp,fq,fc,ff,g4,g5,g10,g11,g12,-,-,kp,-,-,-,-⟩:=cv.j8 hs
 clear hs
 have ga:¬q=w.heap.size:=aF
 have fx:=hv.t
 unfold maxLen at fx
 simp only at fx
 cases hw:dD ⟨16,n,i,t,lo,hi⟩
 case false =>
  have RR:=I (ix (s:=(O.mk x0 x1 x2 x3 x4 x5 x6 x7 x8 x9 F G Z)) hw)
  have HW:=I hw
  clear hw
  exact agM
 case true =>
  have HW:=I hw
  have hn:=il hw aF
  obtain⟨m,rfl⟩:=Int.eq_ofNat_of_zero_le hn
  have ki:=I (ie (s:=(O.mk x0 x1 x2 x3 x4 x5 x6 x7 x8 x9 F G Z)) hw (by show dP 16≠0;rw[mD];decide))
  have jh:=jr hw aF
  clear hw
  rcases Nat.lt_or_ge m x2.length with jP | Gn
  ·
   have dX:U w w:=U.refl w
   (obtain⟨b1,o1,cz,cD,cE,cB,cF,l8,iz,jG,jD,gb,dS,gy,gF,kP,eN,fi,eO,ed,iF,fD,fE,fG,fK,fN⟩:=cr.el kp.out m jP dX;subst gb)
   have iH:¬b1=w.heap.size:=aF
   have oQ:(m:Int)<(x2.length:Int):=aF
   have oj:=ed.out.1
   have om:=ed.out.2.1
   simp only[ar]at oj
   unfold maxLen at om
   have HO:=I (jm (s:=(O.mk x0 x1 x2 x3 x4 x5 x6 x7 x8 x9 F G Z)) (v:=⟨16,m,i,t,lo,hi⟩) aR (show x2[(m:Int).toNat]=_ from gF.out))
   by_cases hk:cz=5
   ·
    subst hk
    by_cases Gk:i<(cB.length:Int)
    ·
     have RR:=I (show eE (O.mk x0 x1 x2 x3 x4 x5 x6 x7 x8 x9 F G Z) ⟨16,m,i,t,lo,hi⟩=true by rw[ki.out,HO.out];simp only[cr.kind,cr.items,mD];simp[Gk])
     have di:decide (i<(cB.length:Int))=true:=ch
     exact abw
    ·
     have RR:=I (show eE (O.mk x0 x1 x2 x3 x4 x5 x6 x7 x8 x9 F G Z) ⟨16,m,i,t,lo,hi⟩=false by rw[ki.out,HO.out];simp only[cr.kind,cr.items,mD];simp[Gk])
     have di:decide (i<(cB.length:Int))=false:=ch
     exact abw
   ·
    have fk:(cz != 5)=true:=aQ
    have RR:=I (show eE (O.mk x0 x1 x2 x3 x4 x5 x6 x7 x8 x9 F G Z) ⟨16,m,i,t,lo,hi⟩=false by rw[ki.out,HO.out];simp only[cr.kind,cr.items,mD];simp[hk])
    clear hk
    exact abw
  ·
   have RR:=I (ki.out.trans (jR aS))
   have dd:decide (x2.length<=m)=true:=cd
   exact agM
theorem Ng (n i:Int) (t:cx) (lo hi:Int) (s:O):qx 45 s ⟨17,n,i,t,lo,hi⟩:=by
 intro S q w hs hv
 obtain⟨x0,x1,x2,x3,x4,x5,x6,x7,x8,x9,F,G,Z⟩:=s
 have js:=I hs
 obtain⟨A0,c0,A1,c1,A2,c2,A3,c3,A6,c6,A7,c7,A8,c8,hq,e0,e1,e2,e3,e4,e5,e6,e7,e8,e9,iE,jc,jd,fj,fm,fa,fb,ew,eL,eK,eV,eX,eY,fp,fq,fc,ff,g4,g5,g10,g11,g12,-,-,kp,-,-,-,-⟩:=cv.j8 hs
 clear hs
 have ga:¬q=w.heap.size:=aF
 have fx:=hv.t
 unfold maxLen at fx
 simp only at fx
 cases hw:dD ⟨17,n,i,t,lo,hi⟩
 case false =>
  have RR:=I (ix (s:=(O.mk x0 x1 x2 x3 x4 x5 x6 x7 x8 x9 F G Z)) hw)
  have HW:=I hw
  clear hw
  exact agN
 case true =>
  have HW:=I hw
  have hn:=il hw aF
  obtain⟨m,rfl⟩:=Int.eq_ofNat_of_zero_le hn
  have ki:=I (ie (s:=(O.mk x0 x1 x2 x3 x4 x5 x6 x7 x8 x9 F G Z)) hw (by show dP 17≠0;rw[lg];decide))
  clear hw
  rcases Nat.lt_or_ge m x2.length with jP | Gn
  ·
   have dX:U w w:=U.refl w
   (obtain⟨b1,o1,cz,cD,cE,cB,cF,l8,iz,jG,jD,gb,dS,gy,gF,kP,eN,fi,eO,ed,iF,fD,fE,fG,fK,fN⟩:=cr.el kp.out m jP dX;subst gb)
   have iH:¬b1=w.heap.size:=aF
   have oQ:(m:Int)<(x2.length:Int):=aF
   have oj:=ed.out.1
   have om:=ed.out.2.1
   simp only[ar]at oj
   unfold maxLen at om
   have HO:=I (jm (s:=(O.mk x0 x1 x2 x3 x4 x5 x6 x7 x8 x9 F G Z)) (v:=⟨17,m,i,t,lo,hi⟩) aR (show x2[(m:Int).toNat]=_ from gF.out))
   by_cases hk:cz=8
   ·
    subst hk
    have RR:=I (show eE (O.mk x0 x1 x2 x3 x4 x5 x6 x7 x8 x9 F G Z) ⟨17,m,i,t,lo,hi⟩=true by rw[ki.out,HO.out];simp only[cr.kind,cr.items,lg];simp)
    exact agO
   ·
    have fk:(cz != 8)=true:=aQ
    have RR:=I (show eE (O.mk x0 x1 x2 x3 x4 x5 x6 x7 x8 x9 F G Z) ⟨17,m,i,t,lo,hi⟩=false by rw[ki.out,HO.out];simp only[cr.kind,cr.items,lg];simp[hk])
    clear hk
    exact agO
  ·
   have RR:=I (ki.out.trans (jR aS))
   have dd:decide (x2.length<=m)=true:=cd
   exact agN
theorem Nh (n i:Int) (t:cx) (lo hi:Int) (s:O):qx 45 s ⟨19,n,i,t,lo,hi⟩:=by
 intro S q w hs hv
 obtain⟨x0,x1,x2,x3,x4,x5,x6,x7,x8,x9,F,G,Z⟩:=s
 have js:=I hs
 obtain⟨A0,c0,A1,c1,A2,c2,A3,c3,A6,c6,A7,c7,A8,c8,hq,e0,e1,e2,e3,e4,e5,e6,e7,e8,e9,iE,jc,jd,fj,fm,fa,fb,ew,eL,eK,eV,eX,eY,fp,fq,fc,ff,g4,g5,g10,g11,g12,-,-,kp,-,-,-,-⟩:=cv.j8 hs
 clear hs
 have ga:¬q=w.heap.size:=aF
 have fx:=hv.t
 unfold maxLen at fx
 simp only at fx
 cases hw:dD ⟨19,n,i,t,lo,hi⟩
 case false =>
  have RR:=I (ix (s:=(O.mk x0 x1 x2 x3 x4 x5 x6 x7 x8 x9 F G Z)) hw)
  have HW:=I hw
  clear hw
  exact agP
 case true =>
  have HW:=I hw
  have hn:=il hw aF
  obtain⟨m,rfl⟩:=Int.eq_ofNat_of_zero_le hn
  have ki:=I (ie (s:=(O.mk x0 x1 x2 x3 x4 x5 x6 x7 x8 x9 F G Z)) hw (by show dP 19≠0;rw[oG];decide))
  clear hw
  rcases Nat.lt_or_ge m x2.length with jP | Gn
  ·
   have dX:U w w:=U.refl w
   (obtain⟨b1,o1,cz,cD,cE,cB,cF,l8,iz,jG,jD,gb,dS,gy,gF,kP,eN,fi,eO,ed,iF,fD,fE,fG,fK,fN⟩:=cr.el kp.out m jP dX;subst gb)
   have iH:¬b1=w.heap.size:=aF
   have oQ:(m:Int)<(x2.length:Int):=aF
   have oj:=ed.out.1
   have om:=ed.out.2.1
   simp only[ar]at oj
   unfold maxLen at om
   have HO:=I (jm (s:=(O.mk x0 x1 x2 x3 x4 x5 x6 x7 x8 x9 F G Z)) (v:=⟨19,m,i,t,lo,hi⟩) aR (show x2[(m:Int).toNat]=_ from gF.out))
   by_cases hk:cz=1
   ·
    subst hk
    have RR:=I (show eE (O.mk x0 x1 x2 x3 x4 x5 x6 x7 x8 x9 F G Z) ⟨19,m,i,t,lo,hi⟩=true by rw[ki.out,HO.out];simp only[cr.kind,cr.items,oG];simp)
    exact agQ
   ·
    have fk:(cz != 1)=true:=aQ
    have RR:=I (show eE (O.mk x0 x1 x2 x3 x4 x5 x6 x7 x8 x9 F G Z) ⟨19,m,i,t,lo,hi⟩=false by rw[ki.out,HO.out];simp only[cr.kind,cr.items,oG];simp[hk])
    clear hk
    exact agQ
  ·
   have RR:=I (ki.out.trans (jR aS))
   have dd:decide (x2.length<=m)=true:=cd
   exact agP
theorem Ni (n i:Int) (t:cx) (lo hi:Int) (s:O):qx 45 s ⟨20,n,i,t,lo,hi⟩:=by
 intro S q w hs hv
 obtain⟨x0,x1,x2,x3,x4,x5,x6,x7,x8,x9,F,G,Z⟩:=s
 have js:=I hs
 obtain⟨A0,c0,A1,c1,A2,c2,A3,c3,A6,c6,A7,c7,A8,c8,hq,e0,e1,e2,e3,e4,e5,e6,e7,e8,e9,iE,jc,jd,fj,fm,fa,fb,ew,eL,eK,eV,eX,eY,fp,fq,fc,ff,g4,g5,g10,g11,g12,-,-,kp,-,-,-,-⟩:=cv.j8 hs
 clear hs
 have ga:¬q=w.heap.size:=aF
 have fx:=hv.t
 unfold maxLen at fx
 simp only at fx
 cases hw:dD ⟨20,n,i,t,lo,hi⟩
 case false =>
  have RR:=I (ix (s:=(O.mk x0 x1 x2 x3 x4 x5 x6 x7 x8 x9 F G Z)) hw)
  have HW:=I hw
  clear hw
  exact agR
 case true =>
  have HW:=I hw
  have hn:=il hw aF
  obtain⟨m,rfl⟩:=Int.eq_ofNat_of_zero_le hn
  have ki:=I (ie (s:=(O.mk x0 x1 x2 x3 x4 x5 x6 x7 x8 x9 F G Z)) hw (by show dP 20≠0;rw[oH];decide))
  clear hw
  rcases Nat.lt_or_ge m x2.length with jP | Gn
  ·
   have dX:U w w:=U.refl w
   (obtain⟨b1,o1,cz,cD,cE,cB,cF,l8,iz,jG,jD,gb,dS,gy,gF,kP,eN,fi,eO,ed,iF,fD,fE,fG,fK,fN⟩:=cr.el kp.out m jP dX;subst gb)
   have iH:¬b1=w.heap.size:=aF
   have oQ:(m:Int)<(x2.length:Int):=aF
   have oj:=ed.out.1
   have om:=ed.out.2.1
   simp only[ar]at oj
   unfold maxLen at om
   have HO:=I (jm (s:=(O.mk x0 x1 x2 x3 x4 x5 x6 x7 x8 x9 F G Z)) (v:=⟨20,m,i,t,lo,hi⟩) aR (show x2[(m:Int).toNat]=_ from gF.out))
   by_cases hk:cz=9
   ·
    subst hk
    have RR:=I (show eE (O.mk x0 x1 x2 x3 x4 x5 x6 x7 x8 x9 F G Z) ⟨20,m,i,t,lo,hi⟩=true by rw[ki.out,HO.out];simp only[cr.kind,cr.items,oH];simp)
    exact agS
   ·
    have fk:(cz != 9)=true:=aQ
    have RR:=I (show eE (O.mk x0 x1 x2 x3 x4 x5 x6 x7 x8 x9 F G Z) ⟨20,m,i,t,lo,hi⟩=false by rw[ki.out,HO.out];simp only[cr.kind,cr.items,oH];simp[hk])
    clear hk
    exact agS
  ·
   have RR:=I (ki.out.trans (jR aS))
   have dd:decide (x2.length<=m)=true:=cd
   exact agR
end Go.Proofs.YtjngkknbpfgdcaaGreatDoor
