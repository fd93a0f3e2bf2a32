import Derived.Test.YtjngkknbpfgdcaaGreatDoorVvS2
set_option linter.unusedVariables false
set_option linter.unusedSimpArgs false
set_option maxRecDepth 100000
set_option maxHeartbeats 8000000
namespace Go.Proofs.YtjngkknbpfgdcaaGreatDoor
open Go.RowKit Go.Proofs.Tryz
--%quiet
def agT (b:Bool) (w:World):Ending->World->Prop:=fun e w'=>e=.returned (.bool b)/\∃m,w'=w.drewN m
theorem oI (s:O) (n kd:Int) (S:Nat->Prop) (q:Nat) (w:World) (hs:cv w S q s) :
  Calls prog 39 #[.pointer (some ⟨q,0,none⟩),.int .i64 n,.int .i64 kd] w (agT (hasB s n kd) w):=by
 obtain⟨x0,x1,x2,x3,x4,x5,x6,x7,x8,x9,F,G,Z⟩:=s
 have js:=I hs
 obtain⟨A0,c0,A1,c1,A2,c2,A3,c3,A6,c6,A7,c7,A8,c8,hq,e0,e1,e2,e3,e4,e5,e6,e7,e8,e9,iE,jc,jd,fj,fm,fa,fb,ew,eL,eK,eV,eX,eY,fp,fq,fc,ff,g4,g5,g10,g11,g12,-,-,kp,-,-,-,-⟩:=cv.j8 hs
 clear hs
 have ga:¬q=w.heap.size:=aF
 rcases Int.lt_or_le n 0 with hn | hn
 ·
  have RR:=I (show hasB (O.mk x0 x1 x2 x3 x4 x5 x6 x7 x8 x9 F G Z) n kd=false by unfold hasB;rw[ax aF];rfl)
  exact Wc
 obtain⟨m,rfl⟩:=Int.eq_ofNat_of_zero_le hn
 rcases Nat.lt_or_ge m x2.length with jP | Gn
 ·
  have dX:U w w:=U.refl w
  (obtain⟨b1,o1,cz,cD,cE,cB,cF,l8,iz,jG,jD,gb,dS,gy,gF,kP,eN,fi,eO,ed,iF,fD,fE,fG,fK,fN⟩:=cr.el kp.out m jP dX;subst gb)
  have HO:=I (BW (s:=(O.mk x0 x1 x2 x3 x4 x5 x6 x7 x8 x9 F G Z)) (n:=(m:Int)) (kd:=kd) hn aR (show x2[(m:Int).toNat]=_ from gF.out))
  by_cases hk:cz=kd
  ·
   have fk:(cz==kd)=true:=aQ
   have RR:=I (show hasB (O.mk x0 x1 x2 x3 x4 x5 x6 x7 x8 x9 F G Z) m kd=true by rw[HO.out];simp[cr.kind,hk])
   clear hk
   exact Wc
  ·
   have fk:(cz==kd)=false:=aQ
   have RR:=I (show hasB (O.mk x0 x1 x2 x3 x4 x5 x6 x7 x8 x9 F G Z) m kd=false by rw[HO.out];simp[cr.kind,hk])
   clear hk
   exact Wc
 ·
  have RR:=I (FR (s:=(O.mk x0 x1 x2 x3 x4 x5 x6 x7 x8 x9 F G Z)) (n:=(m:Int)) (kd:=kd) aS)
  have dd:decide (m<x2.length)=false:=aH
  exact Wc
theorem qW (s:O) (n kd:Int) (S:Nat->Prop) (q:Nat) (w:World) (hs:cv w S q s) :
  Calls prog 39 #[.pointer (some ⟨q,0,none⟩),.int .i64 n,.int .i64 kd] w fun e w'=>e=.returned (.bool (hasB s n kd))/\U w w' :=
 (oI s n kd S q w hs).mono fun _ _ ⟨h,m,hm⟩=>⟨h,hm▸U.drewN (U.refl w) m⟩
theorem QZ (n i:Int) (t:cx) (lo hi:Int) (s:O):qx 27 s ⟨0,n,i,t,lo,hi⟩:=by
 intro S q w hs hv
 obtain⟨x0,x1,x2,x3,x4,x5,x6,x7,x8,x9,F,G,Z⟩:=s
 have js:=I hs
 obtain⟨A0,c0,A1,c1,A2,c2,A3,c3,A6,c6,A7,c7,A8,c8,hq,e0,e1,e2,e3,e4,e5,e6,e7,e8,e9,iE,jc,jd,fj,fm,fa,fb,ew,eL,eK,eV,eX,eY,fp,fq,fc,ff,g4,g5,g10,g11,g12,-,-,-,-,-,-,-⟩:=cv.j8 hs
 clear hs
 have ga:¬q=w.heap.size:=aF
 have fx:=hv.t
 unfold maxLen at fx
 simp only at fx
 cases hw:dD ⟨0,n,i,t,lo,hi⟩
 case false =>
  exact mh
 case true =>
  have HW:=I hw
  have RR:=I (show eE (O.mk x0 x1 x2 x3 x4 x5 x6 x7 x8 x9 F G Z) ⟨0,n,i,t,lo,hi⟩=true by unfold eE;rw[hw,if_neg (show ¬(dP 0≠0) by rw[FM];simp)];simp)
  exact KJ
theorem Q0 (n i:Int) (t:cx) (lo hi:Int) (s:O):qx 27 s ⟨1,n,i,t,lo,hi⟩:=by
 intro S q w hs hv
 obtain⟨x0,x1,x2,x3,x4,x5,x6,x7,x8,x9,F,G,Z⟩:=s
 have js:=I hs
 obtain⟨A0,c0,A1,c1,A2,c2,A3,c3,A6,c6,A7,c7,A8,c8,hq,e0,e1,e2,e3,e4,e5,e6,e7,e8,e9,iE,jc,jd,fj,fm,fa,fb,ew,eL,eK,eV,eX,eY,fp,fq,fc,ff,g4,g5,g10,g11,g12,-,-,-,-,-,-,-⟩:=cv.j8 hs
 clear hs
 have ga:¬q=w.heap.size:=aF
 have fx:=hv.t
 unfold maxLen at fx
 simp only at fx
 cases hw:dD ⟨1,n,i,t,lo,hi⟩
 case false =>
  exact mh
 case true =>
  have HW:=I hw
  have RR:=I (show eE (O.mk x0 x1 x2 x3 x4 x5 x6 x7 x8 x9 F G Z) ⟨1,n,i,t,lo,hi⟩=true by unfold eE;rw[hw,if_neg (show ¬(dP 1≠0) by rw[FN];simp)];simp)
  exact KJ
theorem Q1 (n i:Int) (t:cx) (lo hi:Int) (s:O):qx 27 s ⟨2,n,i,t,lo,hi⟩:=by
 intro S q w hs hv
 obtain⟨x0,x1,x2,x3,x4,x5,x6,x7,x8,x9,F,G,Z⟩:=s
 have js:=I hs
 obtain⟨A0,c0,A1,c1,A2,c2,A3,c3,A6,c6,A7,c7,A8,c8,hq,e0,e1,e2,e3,e4,e5,e6,e7,e8,e9,iE,jc,jd,fj,fm,fa,fb,ew,eL,eK,eV,eX,eY,fp,fq,fc,ff,g4,g5,g10,g11,g12,-,-,-,-,-,-,-⟩:=cv.j8 hs
 clear hs
 have ga:¬q=w.heap.size:=aF
 have fx:=hv.t
 unfold maxLen at fx
 simp only at fx
 cases hw:dD ⟨2,n,i,t,lo,hi⟩
 case false =>
  exact mh
 case true =>
  have HW:=I hw
  have RR:=I (show eE (O.mk x0 x1 x2 x3 x4 x5 x6 x7 x8 x9 F G Z) ⟨2,n,i,t,lo,hi⟩=true by unfold eE;rw[hw,if_neg (show ¬(dP 2≠0) by rw[FO];simp)];simp)
  exact KJ
theorem Q2 (n i:Int) (t:cx) (lo hi:Int) (s:O):qx 27 s ⟨3,n,i,t,lo,hi⟩:=by
 intro S q w hs hv
 obtain⟨x0,x1,x2,x3,x4,x5,x6,x7,x8,x9,F,G,Z⟩:=s
 have js:=I hs
 obtain⟨A0,c0,A1,c1,A2,c2,A3,c3,A6,c6,A7,c7,A8,c8,hq,e0,e1,e2,e3,e4,e5,e6,e7,e8,e9,iE,jc,jd,fj,fm,fa,fb,ew,eL,eK,eV,eX,eY,fp,fq,fc,ff,g4,g5,g10,g11,g12,-,-,-,-,-,-,-⟩:=cv.j8 hs
 clear hs
 have ga:¬q=w.heap.size:=aF
 have fx:=hv.t
 unfold maxLen at fx
 simp only at fx
 cases hw:dD ⟨3,n,i,t,lo,hi⟩
 case false =>
  exact mh
 case true =>
  have HW:=I hw
  have RR:=I (show eE (O.mk x0 x1 x2 x3 x4 x5 x6 x7 x8 x9 F G Z) ⟨3,n,i,t,lo,hi⟩=true by unfold eE;rw[hw,if_neg (show ¬(dP 3≠0) by rw[FP];simp)];simp)
  exact KJ
theorem Q3 (n i:Int) (t:cx) (lo hi:Int) (s:O):qx 27 s ⟨8,n,i,t,lo,hi⟩:=by
 intro S q w hs hv
 obtain⟨x0,x1,x2,x3,x4,x5,x6,x7,x8,x9,F,G,Z⟩:=s
 have js:=I hs
 obtain⟨A0,c0,A1,c1,A2,c2,A3,c3,A6,c6,A7,c7,A8,c8,hq,e0,e1,e2,e3,e4,e5,e6,e7,e8,e9,iE,jc,jd,fj,fm,fa,fb,ew,eL,eK,eV,eX,eY,fp,fq,fc,ff,g4,g5,g10,g11,g12,-,-,-,-,-,-,-⟩:=cv.j8 hs
 clear hs
 have ga:¬q=w.heap.size:=aF
 have fx:=hv.t
 unfold maxLen at fx
 simp only at fx
 cases hw:dD ⟨8,n,i,t,lo,hi⟩
 case false =>
  exact mh
 case true =>
  have HW:=I hw
  have hn:=il hw aF
  by_cases hc:n<(x0.length:Int)
  ·
   have RR:=I (show eE (O.mk x0 x1 x2 x3 x4 x5 x6 x7 x8 x9 F G Z) ⟨8,n,i,t,lo,hi⟩=true by unfold eE;rw[hw,if_neg (show ¬(dP 8≠0) by rw[ys];simp)];simp only[O.jH,O.cu,O.fy];simp[hc])
   have dc:decide (n<(x0.length:Int))=true:=bV
   exact KJ
  ·
   have RR:=I (show eE (O.mk x0 x1 x2 x3 x4 x5 x6 x7 x8 x9 F G Z) ⟨8,n,i,t,lo,hi⟩=false by unfold eE;rw[hw,if_neg (show ¬(dP 8≠0) by rw[ys];simp)];simp only[O.jH,O.cu,O.fy];simp[hc])
   have dc:decide (n<(x0.length:Int))=false:=bV
   exact KJ
theorem Q4 (n i:Int) (t:cx) (lo hi:Int) (s:O):qx 27 s ⟨9,n,i,t,lo,hi⟩:=by
 intro S q w hs hv
 obtain⟨x0,x1,x2,x3,x4,x5,x6,x7,x8,x9,F,G,Z⟩:=s
 have js:=I hs
 obtain⟨A0,c0,A1,c1,A2,c2,A3,c3,A6,c6,A7,c7,A8,c8,hq,e0,e1,e2,e3,e4,e5,e6,e7,e8,e9,iE,jc,jd,fj,fm,fa,fb,ew,eL,eK,eV,eX,eY,fp,fq,fc,ff,g4,g5,g10,g11,g12,-,-,-,-,-,-,-⟩:=cv.j8 hs
 clear hs
 have ga:¬q=w.heap.size:=aF
 have fx:=hv.t
 unfold maxLen at fx
 simp only at fx
 cases hw:dD ⟨9,n,i,t,lo,hi⟩
 case false =>
  exact mh
 case true =>
  have HW:=I hw
  have hn:=il hw aF
  by_cases hc:n<=54
  ·
   have RR:=I (show eE (O.mk x0 x1 x2 x3 x4 x5 x6 x7 x8 x9 F G Z) ⟨9,n,i,t,lo,hi⟩=true by unfold eE;rw[hw,if_neg (show ¬(dP 9≠0) by rw[yt];simp)];simp only[O.jH,O.cu,O.fy];simp[hc])
   have dc:decide (n<=54)=true:=bV
   exact KJ
  ·
   have RR:=I (show eE (O.mk x0 x1 x2 x3 x4 x5 x6 x7 x8 x9 F G Z) ⟨9,n,i,t,lo,hi⟩=false by unfold eE;rw[hw,if_neg (show ¬(dP 9≠0) by rw[yt];simp)];simp only[O.jH,O.cu,O.fy];simp[hc])
   have dc:decide (n<=54)=false:=bV
   exact KJ
theorem Nj (n i:Int) (t:cx) (lo hi:Int) (s:O):qx 27 s ⟨10,n,i,t,lo,hi⟩:=by
 intro S q w hs hv
 obtain⟨x0,x1,x2,x3,x4,x5,x6,x7,x8,x9,F,G,Z⟩:=s
 have js:=I hs
 obtain⟨A0,c0,A1,c1,A2,c2,A3,c3,A6,c6,A7,c7,A8,c8,hq,e0,e1,e2,e3,e4,e5,e6,e7,e8,e9,iE,jc,jd,fj,fm,fa,fb,ew,eL,eK,eV,eX,eY,fp,fq,fc,ff,g4,g5,g10,g11,g12,-,-,-,-,-,-,-⟩:=cv.j8 hs
 clear hs
 have ga:¬q=w.heap.size:=aF
 have fx:=hv.t
 unfold maxLen at fx
 simp only at fx
 cases hw:dD ⟨10,n,i,t,lo,hi⟩
 case false =>
  exact mh
 case true =>
  have HW:=I hw
  have hn:=il hw aF
  by_cases hc:n<(x1.length:Int)
  ·
   have RR:=I (show eE (O.mk x0 x1 x2 x3 x4 x5 x6 x7 x8 x9 F G Z) ⟨10,n,i,t,lo,hi⟩=true by unfold eE;rw[hw,if_neg (show ¬(dP 10≠0) by rw[ue];simp)];simp only[O.jH,O.cu,O.fy];simp[hc])
   have dc:decide (n<(x1.length:Int))=true:=bV
   exact KJ
  ·
   have RR:=I (show eE (O.mk x0 x1 x2 x3 x4 x5 x6 x7 x8 x9 F G Z) ⟨10,n,i,t,lo,hi⟩=false by unfold eE;rw[hw,if_neg (show ¬(dP 10≠0) by rw[ue];simp)];simp only[O.jH,O.cu,O.fy];simp[hc])
   have dc:decide (n<(x1.length:Int))=false:=bV
   exact KJ
theorem Nk (n i:Int) (t:cx) (lo hi:Int) (s:O):qx 27 s ⟨14,n,i,t,lo,hi⟩:=by
 intro S q w hs hv
 obtain⟨x0,x1,x2,x3,x4,x5,x6,x7,x8,x9,F,G,Z⟩:=s
 have js:=I hs
 obtain⟨A0,c0,A1,c1,A2,c2,A3,c3,A6,c6,A7,c7,A8,c8,hq,e0,e1,e2,e3,e4,e5,e6,e7,e8,e9,iE,jc,jd,fj,fm,fa,fb,ew,eL,eK,eV,eX,eY,fp,fq,fc,ff,g4,g5,g10,g11,g12,-,-,-,-,-,-,-⟩:=cv.j8 hs
 clear hs
 have ga:¬q=w.heap.size:=aF
 have fx:=hv.t
 unfold maxLen at fx
 simp only at fx
 cases hw:dD ⟨14,n,i,t,lo,hi⟩
 case false =>
  exact mh
 case true =>
  have HW:=I hw
  have jh:=jr hw aF
  by_cases hc:i<(x3.length:Int)
  ·
   have RR:=I (show eE (O.mk x0 x1 x2 x3 x4 x5 x6 x7 x8 x9 F G Z) ⟨14,n,i,t,lo,hi⟩=true by unfold eE;rw[hw,if_neg (show ¬(dP 14≠0) by rw[ug];simp)];simp only[O.jH,O.cu,O.fy];simp[hc])
   have dc:decide (i<(x3.length:Int))=true:=bV
   exact KJ
  ·
   have RR:=I (show eE (O.mk x0 x1 x2 x3 x4 x5 x6 x7 x8 x9 F G Z) ⟨14,n,i,t,lo,hi⟩=false by unfold eE;rw[hw,if_neg (show ¬(dP 14≠0) by rw[ug];simp)];simp only[O.jH,O.cu,O.fy];simp[hc])
   have dc:decide (i<(x3.length:Int))=false:=bV
   exact KJ
theorem Nl (n i:Int) (t:cx) (lo hi:Int) (s:O):qx 27 s ⟨18,n,i,t,lo,hi⟩:=by
 intro S q w hs hv
 obtain⟨x0,x1,x2,x3,x4,x5,x6,x7,x8,x9,F,G,Z⟩:=s
 have js:=I hs
 obtain⟨A0,c0,A1,c1,A2,c2,A3,c3,A6,c6,A7,c7,A8,c8,hq,e0,e1,e2,e3,e4,e5,e6,e7,e8,e9,iE,jc,jd,fj,fm,fa,fb,ew,eL,eK,eV,eX,eY,fp,fq,fc,ff,g4,g5,g10,g11,g12,-,-,-,-,-,-,-⟩:=cv.j8 hs
 clear hs
 have ga:¬q=w.heap.size:=aF
 have fx:=hv.t
 unfold maxLen at fx
 simp only at fx
 cases hw:dD ⟨18,n,i,t,lo,hi⟩
 case false =>
  exact mh
 case true =>
  have HW:=I hw
  have RR:=I (show eE (O.mk x0 x1 x2 x3 x4 x5 x6 x7 x8 x9 F G Z) ⟨18,n,i,t,lo,hi⟩=true by unfold eE;rw[hw,if_neg (show ¬(dP 18≠0) by rw[BV];simp)];simp)
  exact KJ
theorem B5 (k:Int) (h:k<0\/20<k) (n i:Int) (t:cx) (lo hi:Int) (s:O):qx 27 s ⟨k,n,i,t,lo,hi⟩:=by
 intro S q w hs hv
 obtain⟨x0,x1,x2,x3,x4,x5,x6,x7,x8,x9,F,G,Z⟩:=s
 have js:=I hs
 obtain⟨A0,c0,A1,c1,A2,c2,A3,c3,A6,c6,A7,c7,A8,c8,hq,e0,e1,e2,e3,e4,e5,e6,e7,e8,e9,iE,jc,jd,fj,fm,fa,fb,ew,eL,eK,eV,eX,eY,fp,fq,fc,ff,g4,g5,g10,g11,g12,-,-,-,-,-,-,-⟩:=cv.j8 hs
 clear hs
 have ga:¬q=w.heap.size:=aF
 have fx:=hv.t
 unfold maxLen at fx
 simp only at fx
 cases hw:dD ⟨k,n,i,t,lo,hi⟩
 case false =>
  exact mh
 case true =>
  exfalso
  exact Yg
--%quiet
theorem Q5 (n i:Int) (t:cx) (lo hi:Int) (s:O):qx 27 s ⟨4,n,i,t,lo,hi⟩:=by
 intro S q w hs hv
 obtain⟨x0,x1,x2,x3,x4,x5,x6,x7,x8,x9,F,G,Z⟩:=s
 have js:=I hs
 obtain⟨A0,c0,A1,c1,A2,c2,A3,c3,A6,c6,A7,c7,A8,c8,hq,e0,e1,e2,e3,e4,e5,e6,e7,e8,e9,iE,jc,jd,fj,fm,fa,fb,ew,eL,eK,eV,eX,eY,fp,fq,fc,ff,g4,g5,g10,g11,g12,-,-,kp,-,-,-,-⟩:=cv.j8 hs
 clear hs
 have ga:¬q=w.heap.size:=aF
 have fx:=hv.t
 unfold maxLen at fx
 simp only at fx
 cases hw:dD ⟨4,n,i,t,lo,hi⟩
 case false =>
  exact mh
 case true =>
  have HW:=I hw
  have hn:=il hw aF
  have ki:=I ((ie (s:=(O.mk x0 x1 x2 x3 x4 x5 x6 x7 x8 x9 F G Z)) hw (by show dP 4≠0;rw[qI];decide)).trans (ll hn aJ))
  clear hw
  cases hh:hasB (O.mk x0 x1 x2 x3 x4 x5 x6 x7 x8 x9 F G Z) n 2
  ·
   have RR:=I (show eE (O.mk x0 x1 x2 x3 x4 x5 x6 x7 x8 x9 F G Z) ⟨4,n,i,t,lo,hi⟩=false by rw[ki.out];show hasB _ n (dP 4)=_;rw[qI];exact hh)
   exact Eb
  ·
   have RR:=I (show eE (O.mk x0 x1 x2 x3 x4 x5 x6 x7 x8 x9 F G Z) ⟨4,n,i,t,lo,hi⟩=true by rw[ki.out];show hasB _ n (dP 4)=_;rw[qI];exact hh)
   exact Eb
theorem Q6 (n i:Int) (t:cx) (lo hi:Int) (s:O):qx 27 s ⟨5,n,i,t,lo,hi⟩:=by
 intro S q w hs hv
 obtain⟨x0,x1,x2,x3,x4,x5,x6,x7,x8,x9,F,G,Z⟩:=s
 have js:=I hs
 obtain⟨A0,c0,A1,c1,A2,c2,A3,c3,A6,c6,A7,c7,A8,c8,hq,e0,e1,e2,e3,e4,e5,e6,e7,e8,e9,iE,jc,jd,fj,fm,fa,fb,ew,eL,eK,eV,eX,eY,fp,fq,fc,ff,g4,g5,g10,g11,g12,-,-,kp,-,-,-,-⟩:=cv.j8 hs
 clear hs
 have ga:¬q=w.heap.size:=aF
 have fx:=hv.t
 unfold maxLen at fx
 simp only at fx
 cases hw:dD ⟨5,n,i,t,lo,hi⟩
 case false =>
  exact mh
 case true =>
  have HW:=I hw
  have hn:=il hw aF
  have ki:=I ((ie (s:=(O.mk x0 x1 x2 x3 x4 x5 x6 x7 x8 x9 F G Z)) hw (by show dP 5≠0;rw[mM];decide)).trans (ll hn aJ))
  clear hw
  cases hh:hasB (O.mk x0 x1 x2 x3 x4 x5 x6 x7 x8 x9 F G Z) n 3
  ·
   have RR:=I (show eE (O.mk x0 x1 x2 x3 x4 x5 x6 x7 x8 x9 F G Z) ⟨5,n,i,t,lo,hi⟩=false by rw[ki.out];show hasB _ n (dP 5)=_;rw[mM];exact hh)
   exact Eb
  ·
   have RR:=I (show eE (O.mk x0 x1 x2 x3 x4 x5 x6 x7 x8 x9 F G Z) ⟨5,n,i,t,lo,hi⟩=true by rw[ki.out];show hasB _ n (dP 5)=_;rw[mM];exact hh)
   exact Eb
theorem Q7 (n i:Int) (t:cx) (lo hi:Int) (s:O):qx 27 s ⟨6,n,i,t,lo,hi⟩:=by
 intro S q w hs hv
 obtain⟨x0,x1,x2,x3,x4,x5,x6,x7,x8,x9,F,G,Z⟩:=s
 have js:=I hs
 obtain⟨A0,c0,A1,c1,A2,c2,A3,c3,A6,c6,A7,c7,A8,c8,hq,e0,e1,e2,e3,e4,e5,e6,e7,e8,e9,iE,jc,jd,fj,fm,fa,fb,ew,eL,eK,eV,eX,eY,fp,fq,fc,ff,g4,g5,g10,g11,g12,-,-,kp,-,-,-,-⟩:=cv.j8 hs
 clear hs
 have ga:¬q=w.heap.size:=aF
 have fx:=hv.t
 unfold maxLen at fx
 simp only at fx
 cases hw:dD ⟨6,n,i,t,lo,hi⟩
 case false =>
  exact mh
 case true =>
  have HW:=I hw
  have hn:=il hw aF
  have ki:=I ((ie (s:=(O.mk x0 x1 x2 x3 x4 x5 x6 x7 x8 x9 F G Z)) hw (by show dP 6≠0;rw[qJ];decide)).trans (ll hn aJ))
  clear hw
  cases hh:hasB (O.mk x0 x1 x2 x3 x4 x5 x6 x7 x8 x9 F G Z) n 4
  ·
   have RR:=I (show eE (O.mk x0 x1 x2 x3 x4 x5 x6 x7 x8 x9 F G Z) ⟨6,n,i,t,lo,hi⟩=false by rw[ki.out];show hasB _ n (dP 6)=_;rw[qJ];exact hh)
   exact Eb
  ·
   have RR:=I (show eE (O.mk x0 x1 x2 x3 x4 x5 x6 x7 x8 x9 F G Z) ⟨6,n,i,t,lo,hi⟩=true by rw[ki.out];show hasB _ n (dP 6)=_;rw[qJ];exact hh)
   exact Eb
theorem Q8 (n i:Int) (t:cx) (lo hi:Int) (s:O):qx 27 s ⟨7,n,i,t,lo,hi⟩:=by
 intro S q w hs hv
 obtain⟨x0,x1,x2,x3,x4,x5,x6,x7,x8,x9,F,G,Z⟩:=s
 have js:=I hs
 obtain⟨A0,c0,A1,c1,A2,c2,A3,c3,A6,c6,A7,c7,A8,c8,hq,e0,e1,e2,e3,e4,e5,e6,e7,e8,e9,iE,jc,jd,fj,fm,fa,fb,ew,eL,eK,eV,eX,eY,fp,fq,fc,ff,g4,g5,g10,g11,g12,-,-,kp,-,-,-,-⟩:=cv.j8 hs
 clear hs
 have ga:¬q=w.heap.size:=aF
 have fx:=hv.t
 unfold maxLen at fx
 simp only at fx
 cases hw:dD ⟨7,n,i,t,lo,hi⟩
 case false =>
  exact mh
 case true =>
  have HW:=I hw
  have hn:=il hw aF
  have ki:=I ((ie (s:=(O.mk x0 x1 x2 x3 x4 x5 x6 x7 x8 x9 F G Z)) hw (by show dP 7≠0;rw[qL];decide)).trans (ll hn aJ))
  clear hw
  cases hh:hasB (O.mk x0 x1 x2 x3 x4 x5 x6 x7 x8 x9 F G Z) n 5
  ·
   have RR:=I (show eE (O.mk x0 x1 x2 x3 x4 x5 x6 x7 x8 x9 F G Z) ⟨7,n,i,t,lo,hi⟩=false by rw[ki.out];show hasB _ n (dP 7)=_;rw[qL];exact hh)
   exact Eb
  ·
   have RR:=I (show eE (O.mk x0 x1 x2 x3 x4 x5 x6 x7 x8 x9 F G Z) ⟨7,n,i,t,lo,hi⟩=true by rw[ki.out];show hasB _ n (dP 7)=_;rw[qL];exact hh)
   exact Eb
theorem Nn (n i:Int) (t:cx) (lo hi:Int) (s:O):qx 27 s ⟨11,n,i,t,lo,hi⟩:=by
 intro S q w hs hv
 obtain⟨x0,x1,x2,x3,x4,x5,x6,x7,x8,x9,F,G,Z⟩:=s
 have js:=I hs
 obtain⟨A0,c0,A1,c1,A2,c2,A3,c3,A6,c6,A7,c7,A8,c8,hq,e0,e1,e2,e3,e4,e5,e6,e7,e8,e9,iE,jc,jd,fj,fm,fa,fb,ew,eL,eK,eV,eX,eY,fp,fq,fc,ff,g4,g5,g10,g11,g12,-,-,kp,-,-,-,-⟩:=cv.j8 hs
 clear hs
 have ga:¬q=w.heap.size:=aF
 have fx:=hv.t
 unfold maxLen at fx
 simp only at fx
 cases hw:dD ⟨11,n,i,t,lo,hi⟩
 case false =>
  exact mh
 case true =>
  have HW:=I hw
  have hn:=il hw aF
  have ki:=I ((ie (s:=(O.mk x0 x1 x2 x3 x4 x5 x6 x7 x8 x9 F G Z)) hw (by show dP 11≠0;rw[oD];decide)).trans (ll hn aJ))
  clear hw
  cases hh:hasB (O.mk x0 x1 x2 x3 x4 x5 x6 x7 x8 x9 F G Z) n 6
  ·
   have RR:=I (show eE (O.mk x0 x1 x2 x3 x4 x5 x6 x7 x8 x9 F G Z) ⟨11,n,i,t,lo,hi⟩=false by rw[ki.out];show hasB _ n (dP 11)=_;rw[oD];exact hh)
   exact Eb
  ·
   have RR:=I (show eE (O.mk x0 x1 x2 x3 x4 x5 x6 x7 x8 x9 F G Z) ⟨11,n,i,t,lo,hi⟩=true by rw[ki.out];show hasB _ n (dP 11)=_;rw[oD];exact hh)
   exact Eb
theorem Np (n i:Int) (t:cx) (lo hi:Int) (s:O):qx 27 s ⟨12,n,i,t,lo,hi⟩:=by
 intro S q w hs hv
 obtain⟨x0,x1,x2,x3,x4,x5,x6,x7,x8,x9,F,G,Z⟩:=s
 have js:=I hs
 obtain⟨A0,c0,A1,c1,A2,c2,A3,c3,A6,c6,A7,c7,A8,c8,hq,e0,e1,e2,e3,e4,e5,e6,e7,e8,e9,iE,jc,jd,fj,fm,fa,fb,ew,eL,eK,eV,eX,eY,fp,fq,fc,ff,g4,g5,g10,g11,g12,-,-,kp,-,-,-,-⟩:=cv.j8 hs
 clear hs
 have ga:¬q=w.heap.size:=aF
 have fx:=hv.t
 unfold maxLen at fx
 simp only at fx
 cases hw:dD ⟨12,n,i,t,lo,hi⟩
 case false =>
  exact mh
 case true =>
  have HW:=I hw
  have hn:=il hw aF
  have ki:=I ((ie (s:=(O.mk x0 x1 x2 x3 x4 x5 x6 x7 x8 x9 F G Z)) hw (by show dP 12≠0;rw[oE];decide)).trans (ll hn aJ))
  clear hw
  cases hh:hasB (O.mk x0 x1 x2 x3 x4 x5 x6 x7 x8 x9 F G Z) n 7
  ·
   have RR:=I (show eE (O.mk x0 x1 x2 x3 x4 x5 x6 x7 x8 x9 F G Z) ⟨12,n,i,t,lo,hi⟩=false by rw[ki.out];show hasB _ n (dP 12)=_;rw[oE];exact hh)
   exact Eb
  ·
   have RR:=I (show eE (O.mk x0 x1 x2 x3 x4 x5 x6 x7 x8 x9 F G Z) ⟨12,n,i,t,lo,hi⟩=true by rw[ki.out];show hasB _ n (dP 12)=_;rw[oE];exact hh)
   exact Eb
--%quiet
theorem Nq (n i:Int) (t:cx) (lo hi:Int) (s:O):qx 27 s ⟨13,n,i,t,lo,hi⟩:=by
 intro S q w hs hv
 obtain⟨x0,x1,x2,x3,x4,x5,x6,x7,x8,x9,F,G,Z⟩:=s
 have js:=I hs
 obtain⟨A0,c0,A1,c1,A2,c2,A3,c3,A6,c6,A7,c7,A8,c8,hq,e0,e1,e2,e3,e4,e5,e6,e7,e8,e9,iE,jc,jd,fj,fm,fa,fb,ew,eL,eK,eV,eX,eY,fp,fq,fc,ff,g4,g5,g10,g11,g12,-,-,kp,-,-,-,-⟩:=cv.j8 hs
 clear hs
 have ga:¬q=w.heap.size:=aF
 have fx:=hv.t
 unfold maxLen at fx
 simp only at fx
 cases hw:dD ⟨13,n,i,t,lo,hi⟩
 case false =>
  exact mh
 case true =>
  have HW:=I hw
  have hn:=il hw aF
  obtain⟨m,rfl⟩:=Int.eq_ofNat_of_zero_le hn
  have ki:=I (ie (s:=(O.mk x0 x1 x2 x3 x4 x5 x6 x7 x8 x9 F G Z)) hw (by show dP 13≠0;rw[mC];decide))
  have jh:=jr hw aF
  clear hw
  rcases Nat.lt_or_ge m x2.length with jP | Gn
  ·
   have dX:U w w:=U.refl w
   (obtain⟨b1,o1,cz,cD,cE,cB,cF,l8,iz,jG,jD,gb,dS,gy,gF,kP,eN,fi,eO,ed,iF,fD,fE,fG,fK,fN⟩:=cr.el kp.out m jP dX;subst gb)
   have iH:¬b1=w.heap.size:=aF
   have oQ:(m:Int)<(x2.length:Int):=aF
   have oj:=ed.out.1
   have om:=ed.out.2.1
   simp only[ar]at oj
   unfold maxLen at om
   have HO:=I (jm (s:=(O.mk x0 x1 x2 x3 x4 x5 x6 x7 x8 x9 F G Z)) (v:=⟨13,m,i,t,lo,hi⟩) aR (show x2[(m:Int).toNat]=_ from gF.out))
   have HB:=I (BW (s:=(O.mk x0 x1 x2 x3 x4 x5 x6 x7 x8 x9 F G Z)) (n:=(m:Int)) (kd:=1) hn aR (show x2[(m:Int).toNat]=_ from gF.out))
   by_cases hk:cz=1
   ·
    subst hk
    have HH:=I (show hasB (O.mk x0 x1 x2 x3 x4 x5 x6 x7 x8 x9 F G Z) m 1=true by rw[HB.out];simp[cr.kind])
    by_cases Gk:i<(cB.length:Int)
    ·
     have RR:=I (show eE (O.mk x0 x1 x2 x3 x4 x5 x6 x7 x8 x9 F G Z) ⟨13,m,i,t,lo,hi⟩=true by rw[ki.out,HO.out];simp only[cr.kind,cr.items,mC];simp[Gk])
     have di:decide (i<(cB.length:Int))=true:=ch
     exact aby
    ·
     have RR:=I (show eE (O.mk x0 x1 x2 x3 x4 x5 x6 x7 x8 x9 F G Z) ⟨13,m,i,t,lo,hi⟩=false by rw[ki.out,HO.out];simp only[cr.kind,cr.items,mC];simp[Gk])
     have di:decide (i<(cB.length:Int))=false:=ch
     exact aby
   ·
    have HH:=I (show hasB (O.mk x0 x1 x2 x3 x4 x5 x6 x7 x8 x9 F G Z) m 1=false by rw[HB.out];simp[cr.kind,hk])
    have RR:=I (show eE (O.mk x0 x1 x2 x3 x4 x5 x6 x7 x8 x9 F G Z) ⟨13,m,i,t,lo,hi⟩=false by rw[ki.out,HO.out];simp only[cr.kind,cr.items,mC];simp[hk])
    clear hk
    exact aby
  ·
   have RR:=I (ki.out.trans (jR aS))
   have HH:=I (FR (s:=(O.mk x0 x1 x2 x3 x4 x5 x6 x7 x8 x9 F G Z)) (n:=(m:Int)) (kd:=1) aS)
   have HQ:=I (fun (wx:World) (hx:U w wx)=>(by have:=oI (O.mk x0 x1 x2 x3 x4 x5 x6 x7 x8 x9 F G Z) (m:Int) 1 S q wx (cv.de hx js.out);rw[HH.out]at this;exact this))
   go_enter func27,ntmps27
   exact Yn
theorem Nr (n i:Int) (t:cx) (lo hi:Int) (s:O):qx 27 s ⟨15,n,i,t,lo,hi⟩:=by
 intro S q w hs hv
 obtain⟨x0,x1,x2,x3,x4,x5,x6,x7,x8,x9,F,G,Z⟩:=s
 have js:=I hs
 obtain⟨A0,c0,A1,c1,A2,c2,A3,c3,A6,c6,A7,c7,A8,c8,hq,e0,e1,e2,e3,e4,e5,e6,e7,e8,e9,iE,jc,jd,fj,fm,fa,fb,ew,eL,eK,eV,eX,eY,fp,fq,fc,ff,g4,g5,g10,g11,g12,-,-,kp,-,-,-,-⟩:=cv.j8 hs
 clear hs
 have ga:¬q=w.heap.size:=aF
 have fx:=hv.t
 unfold maxLen at fx
 simp only at fx
 cases hw:dD ⟨15,n,i,t,lo,hi⟩
 case false =>
  exact mh
 case true =>
  have HW:=I hw
  have hn:=il hw aF
  have ki:=I ((ie (s:=(O.mk x0 x1 x2 x3 x4 x5 x6 x7 x8 x9 F G Z)) hw (by show dP 15≠0;rw[oF];decide)).trans (ll hn aJ))
  clear hw
  cases hh:hasB (O.mk x0 x1 x2 x3 x4 x5 x6 x7 x8 x9 F G Z) n 2
  ·
   have RR:=I (show eE (O.mk x0 x1 x2 x3 x4 x5 x6 x7 x8 x9 F G Z) ⟨15,n,i,t,lo,hi⟩=false by rw[ki.out];show hasB _ n (dP 15)=_;rw[oF];exact hh)
   exact Eb
  ·
   have RR:=I (show eE (O.mk x0 x1 x2 x3 x4 x5 x6 x7 x8 x9 F G Z) ⟨15,n,i,t,lo,hi⟩=true by rw[ki.out];show hasB _ n (dP 15)=_;rw[oF];exact hh)
   exact Eb
theorem Ns (n i:Int) (t:cx) (lo hi:Int) (s:O):qx 27 s ⟨16,n,i,t,lo,hi⟩:=by
 intro S q w hs hv
 obtain⟨x0,x1,x2,x3,x4,x5,x6,x7,x8,x9,F,G,Z⟩:=s
 have js:=I hs
 obtain⟨A0,c0,A1,c1,A2,c2,A3,c3,A6,c6,A7,c7,A8,c8,hq,e0,e1,e2,e3,e4,e5,e6,e7,e8,e9,iE,jc,jd,fj,fm,fa,fb,ew,eL,eK,eV,eX,eY,fp,fq,fc,ff,g4,g5,g10,g11,g12,-,-,kp,-,-,-,-⟩:=cv.j8 hs
 clear hs
 have ga:¬q=w.heap.size:=aF
 have fx:=hv.t
 unfold maxLen at fx
 simp only at fx
 cases hw:dD ⟨16,n,i,t,lo,hi⟩
 case false =>
  exact mh
 case true =>
  have HW:=I hw
  have hn:=il hw aF
  obtain⟨m,rfl⟩:=Int.eq_ofNat_of_zero_le hn
  have ki:=I (ie (s:=(O.mk x0 x1 x2 x3 x4 x5 x6 x7 x8 x9 F G Z)) hw (by show dP 16≠0;rw[mD];decide))
  have jh:=jr hw aF
  clear hw
  rcases Nat.lt_or_ge m x2.length with jP | Gn
  ·
   have dX:U w w:=U.refl w
   (obtain⟨b1,o1,cz,cD,cE,cB,cF,l8,iz,jG,jD,gb,dS,gy,gF,kP,eN,fi,eO,ed,iF,fD,fE,fG,fK,fN⟩:=cr.el kp.out m jP dX;subst gb)
   have iH:¬b1=w.heap.size:=aF
   have oQ:(m:Int)<(x2.length:Int):=aF
   have oj:=ed.out.1
   have om:=ed.out.2.1
   simp only[ar]at oj
   unfold maxLen at om
   have HO:=I (jm (s:=(O.mk x0 x1 x2 x3 x4 x5 x6 x7 x8 x9 F G Z)) (v:=⟨16,m,i,t,lo,hi⟩) aR (show x2[(m:Int).toNat]=_ from gF.out))
   have HB:=I (BW (s:=(O.mk x0 x1 x2 x3 x4 x5 x6 x7 x8 x9 F G Z)) (n:=(m:Int)) (kd:=5) hn aR (show x2[(m:Int).toNat]=_ from gF.out))
   by_cases hk:cz=5
   ·
    subst hk
    have HH:=I (show hasB (O.mk x0 x1 x2 x3 x4 x5 x6 x7 x8 x9 F G Z) m 5=true by rw[HB.out];simp[cr.kind])
    by_cases Gk:i<(cB.length:Int)
    ·
     have RR:=I (show eE (O.mk x0 x1 x2 x3 x4 x5 x6 x7 x8 x9 F G Z) ⟨16,m,i,t,lo,hi⟩=true by rw[ki.out,HO.out];simp only[cr.kind,cr.items,mD];simp[Gk])
     have di:decide (i<(cB.length:Int))=true:=ch
     exact abz
    ·
     have RR:=I (show eE (O.mk x0 x1 x2 x3 x4 x5 x6 x7 x8 x9 F G Z) ⟨16,m,i,t,lo,hi⟩=false by rw[ki.out,HO.out];simp only[cr.kind,cr.items,mD];simp[Gk])
     have di:decide (i<(cB.length:Int))=false:=ch
     exact abz
   ·
    have HH:=I (show hasB (O.mk x0 x1 x2 x3 x4 x5 x6 x7 x8 x9 F G Z) m 5=false by rw[HB.out];simp[cr.kind,hk])
    have RR:=I (show eE (O.mk x0 x1 x2 x3 x4 x5 x6 x7 x8 x9 F G Z) ⟨16,m,i,t,lo,hi⟩=false by rw[ki.out,HO.out];simp only[cr.kind,cr.items,mD];simp[hk])
    clear hk
    exact abz
  ·
   have RR:=I (ki.out.trans (jR aS))
   have HH:=I (FR (s:=(O.mk x0 x1 x2 x3 x4 x5 x6 x7 x8 x9 F G Z)) (n:=(m:Int)) (kd:=5) aS)
   have HQ:=I (fun (wx:World) (hx:U w wx)=>(by have:=oI (O.mk x0 x1 x2 x3 x4 x5 x6 x7 x8 x9 F G Z) (m:Int) 5 S q wx (cv.de hx js.out);rw[HH.out]at this;exact this))
   go_enter func27,ntmps27
   exact Yn
theorem Nt (n i:Int) (t:cx) (lo hi:Int) (s:O):qx 27 s ⟨17,n,i,t,lo,hi⟩:=by
 intro S q w hs hv
 obtain⟨x0,x1,x2,x3,x4,x5,x6,x7,x8,x9,F,G,Z⟩:=s
 have js:=I hs
 obtain⟨A0,c0,A1,c1,A2,c2,A3,c3,A6,c6,A7,c7,A8,c8,hq,e0,e1,e2,e3,e4,e5,e6,e7,e8,e9,iE,jc,jd,fj,fm,fa,fb,ew,eL,eK,eV,eX,eY,fp,fq,fc,ff,g4,g5,g10,g11,g12,-,-,kp,-,-,-,-⟩:=cv.j8 hs
 clear hs
 have ga:¬q=w.heap.size:=aF
 have fx:=hv.t
 unfold maxLen at fx
 simp only at fx
 cases hw:dD ⟨17,n,i,t,lo,hi⟩
 case false =>
  exact mh
 case true =>
  have HW:=I hw
  have hn:=il hw aF
  have ki:=I ((ie (s:=(O.mk x0 x1 x2 x3 x4 x5 x6 x7 x8 x9 F G Z)) hw (by show dP 17≠0;rw[lg];decide)).trans (ll hn aJ))
  clear hw
  cases hh:hasB (O.mk x0 x1 x2 x3 x4 x5 x6 x7 x8 x9 F G Z) n 8
  ·
   have RR:=I (show eE (O.mk x0 x1 x2 x3 x4 x5 x6 x7 x8 x9 F G Z) ⟨17,n,i,t,lo,hi⟩=false by rw[ki.out];show hasB _ n (dP 17)=_;rw[lg];exact hh)
   exact Eb
  ·
   have RR:=I (show eE (O.mk x0 x1 x2 x3 x4 x5 x6 x7 x8 x9 F G Z) ⟨17,n,i,t,lo,hi⟩=true by rw[ki.out];show hasB _ n (dP 17)=_;rw[lg];exact hh)
   exact Eb
theorem Nu (n i:Int) (t:cx) (lo hi:Int) (s:O):qx 27 s ⟨19,n,i,t,lo,hi⟩:=by
 intro S q w hs hv
 obtain⟨x0,x1,x2,x3,x4,x5,x6,x7,x8,x9,F,G,Z⟩:=s
 have js:=I hs
 obtain⟨A0,c0,A1,c1,A2,c2,A3,c3,A6,c6,A7,c7,A8,c8,hq,e0,e1,e2,e3,e4,e5,e6,e7,e8,e9,iE,jc,jd,fj,fm,fa,fb,ew,eL,eK,eV,eX,eY,fp,fq,fc,ff,g4,g5,g10,g11,g12,-,-,kp,-,-,-,-⟩:=cv.j8 hs
 clear hs
 have ga:¬q=w.heap.size:=aF
 have fx:=hv.t
 unfold maxLen at fx
 simp only at fx
 cases hw:dD ⟨19,n,i,t,lo,hi⟩
 case false =>
  exact mh
 case true =>
  have HW:=I hw
  have hn:=il hw aF
  have ki:=I ((ie (s:=(O.mk x0 x1 x2 x3 x4 x5 x6 x7 x8 x9 F G Z)) hw (by show dP 19≠0;rw[oG];decide)).trans (ll hn aJ))
  clear hw
  cases hh:hasB (O.mk x0 x1 x2 x3 x4 x5 x6 x7 x8 x9 F G Z) n 1
  ·
   have RR:=I (show eE (O.mk x0 x1 x2 x3 x4 x5 x6 x7 x8 x9 F G Z) ⟨19,n,i,t,lo,hi⟩=false by rw[ki.out];show hasB _ n (dP 19)=_;rw[oG];exact hh)
   exact Eb
  ·
   have RR:=I (show eE (O.mk x0 x1 x2 x3 x4 x5 x6 x7 x8 x9 F G Z) ⟨19,n,i,t,lo,hi⟩=true by rw[ki.out];show hasB _ n (dP 19)=_;rw[oG];exact hh)
   exact Eb
theorem Nv (n i:Int) (t:cx) (lo hi:Int) (s:O):qx 27 s ⟨20,n,i,t,lo,hi⟩:=by
 intro S q w hs hv
 obtain⟨x0,x1,x2,x3,x4,x5,x6,x7,x8,x9,F,G,Z⟩:=s
 have js:=I hs
 obtain⟨A0,c0,A1,c1,A2,c2,A3,c3,A6,c6,A7,c7,A8,c8,hq,e0,e1,e2,e3,e4,e5,e6,e7,e8,e9,iE,jc,jd,fj,fm,fa,fb,ew,eL,eK,eV,eX,eY,fp,fq,fc,ff,g4,g5,g10,g11,g12,-,-,kp,-,-,-,-⟩:=cv.j8 hs
 clear hs
 have ga:¬q=w.heap.size:=aF
 have fx:=hv.t
 unfold maxLen at fx
 simp only at fx
 cases hw:dD ⟨20,n,i,t,lo,hi⟩
 case false =>
  exact mh
 case true =>
  have HW:=I hw
  have hn:=il hw aF
  have ki:=I ((ie (s:=(O.mk x0 x1 x2 x3 x4 x5 x6 x7 x8 x9 F G Z)) hw (by show dP 20≠0;rw[oH];decide)).trans (ll hn aJ))
  clear hw
  cases hh:hasB (O.mk x0 x1 x2 x3 x4 x5 x6 x7 x8 x9 F G Z) n 9
  ·
   have RR:=I (show eE (O.mk x0 x1 x2 x3 x4 x5 x6 x7 x8 x9 F G Z) ⟨20,n,i,t,lo,hi⟩=false by rw[ki.out];show hasB _ n (dP 20)=_;rw[oH];exact hh)
   exact Eb
  ·
   have RR:=I (show eE (O.mk x0 x1 x2 x3 x4 x5 x6 x7 x8 x9 F G Z) ⟨20,n,i,t,lo,hi⟩=true by rw[ki.out];show hasB _ n (dP 20)=_;rw[oH];exact hh)
   exact Eb
end Go.Proofs.YtjngkknbpfgdcaaGreatDoor
