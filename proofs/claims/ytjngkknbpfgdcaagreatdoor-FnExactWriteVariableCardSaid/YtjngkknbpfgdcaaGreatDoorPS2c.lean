import Derived.Test.YtjngkknbpfgdcaaGreatDoorPr
import Derived.Test.YtjngkknbpfgdcaaGreatDoorPS2
set_option linter.unusedVariables false
set_option linter.unusedSimpArgs false
set_option maxRecDepth 100000
set_option maxHeartbeats 8000000
namespace Go.Proofs.YtjngkknbpfgdcaaGreatDoor
open Go.RowKit
--%quiet
theorem Ku (n i:Int) (t:ByteArray) (lo hi:Int) (s:cv):pU 45 s ⟨16,n,i,t,lo,hi⟩:=by
 intro S q w hs hv
 obtain⟨x0,x1,x2,x3,x4,x5,x6,x7,x8,x9,x10,x11,x12⟩:=s
 have jF:=hide hs
 obtain⟨A0,c0,A1,c1,A2,c2,A3,c3,A6,c6,A7,c7,A8,c8,hq,e0,e1,e2,e3,e4,e5,e6,e7,e8,e9,e10,e11,e12,gg,hcm0,ga,hcm1,fB,hcm2,fL,fV,fW,fZ,gh,gi,gb,gd,g4,g5,g10,g11,g12,-,-,HR2,-,-,-,-⟩:=cG.opn hs
 clear hs
 have gM:¬q=w.heap.size:=aB
 have hts:=hv.t
 unfold maxLen at hts
 simp only at hts
 cases hw:dS ⟨16,n,i,t,lo,hi⟩
 case false =>
  have RR:=hide (gW (s:=(cv.mk x0 x1 x2 x3 x4 x5 x6 x7 x8 x9 x10 x11 x12)) hw)
  have HW:=hide hw
  clear hw
  exact adx
 case true =>
  have HW:=hide hw
  have hn:=gT hw aB
  obtain⟨m,rfl⟩:=Int.eq_ofNat_of_zero_le hn
  have jM:=hide (gS (s:=(cv.mk x0 x1 x2 x3 x4 x5 x6 x7 x8 x9 x10 x11 x12)) hw (by show ef 16≠0;rw[lR];decide))
  have hi0:=mP hw aB
  clear hw
  rcases Nat.lt_or_ge m x2.length with hlt | hge
  ·
   have hbw:cE w w:=cE.refl w
   (obtain⟨b1,o1,cH,cM,cN,cO,cP,mw,jr,jR,jI,hA1,hS1,hl1,hx1,hv1,eY,eG,fa,dY,er,db,de,dq,dy,dz⟩:=cz.at HR2.out m hlt;subst hA1;have jh:=hide (Dat.cC.bel hbw hv1);have hh1:=hbw.box b1 hl1;have hw1:=ak hl1 (cE.size hbw);replace db:=(hh1 _).trans db;replace de:=(hh1 _).trans de;replace dq:=(hh1 _).trans dq;replace dy:=(hh1 _).trans dy;replace dz:=(hh1 _).trans dz;have gv:=hide hx1;have fJ:=hide dY;have jq:=hide er;clear hh1 hv1 hx1 hS1 dY er)
   have hne1:¬b1=w.heap.size:=aB
   have hi1:(m:Int)<(x2.length:Int):=aB
   have hll:=fJ.out.1
   have hlm:=fJ.out.2.1
   simp only[aj]at hll
   unfold maxLen at hlm
   have HO:=hide (iS (s:=(cv.mk x0 x1 x2 x3 x4 x5 x6 x7 x8 x9 x10 x11 x12)) (v:=⟨16,m,i,t,lo,hi⟩) aO (show x2[(m:Int).toNat]=_ from gv.out))
   by_cases hk:cH=5
   ·
    subst hk
    by_cases hix:i<(cO.length:Int)
    ·
     have RR:=hide (show inB (cv.mk x0 x1 x2 x3 x4 x5 x6 x7 x8 x9 x10 x11 x12) ⟨16,m,i,t,lo,hi⟩=true by rw[jM.out,HO.out];simp only[cz.kind,cz.items,lR];simp[hix])
     have di:decide (i<(cO.length:Int))=true:=cu
     exact ZF
    ·
     have RR:=hide (show inB (cv.mk x0 x1 x2 x3 x4 x5 x6 x7 x8 x9 x10 x11 x12) ⟨16,m,i,t,lo,hi⟩=false by rw[jM.out,HO.out];simp only[cz.kind,cz.items,lR];simp[hix])
     have di:decide (i<(cO.length:Int))=false:=cu
     exact ZF
   ·
    have fk:(cH != 5)=true:=aL
    have RR:=hide (show inB (cv.mk x0 x1 x2 x3 x4 x5 x6 x7 x8 x9 x10 x11 x12) ⟨16,m,i,t,lo,hi⟩=false by rw[jM.out,HO.out];simp only[cz.kind,cz.items,lR];simp[hk])
    clear hk
    exact ZF
  ·
   have RR:=hide (jM.out.trans (jy aP))
   have dd:decide (x2.length<=m)=true:=cq
   exact adx
theorem Kv (n i:Int) (t:ByteArray) (lo hi:Int) (s:cv):pU 45 s ⟨17,n,i,t,lo,hi⟩:=by
 intro S q w hs hv
 obtain⟨x0,x1,x2,x3,x4,x5,x6,x7,x8,x9,x10,x11,x12⟩:=s
 have jF:=hide hs
 obtain⟨A0,c0,A1,c1,A2,c2,A3,c3,A6,c6,A7,c7,A8,c8,hq,e0,e1,e2,e3,e4,e5,e6,e7,e8,e9,e10,e11,e12,gg,hcm0,ga,hcm1,fB,hcm2,fL,fV,fW,fZ,gh,gi,gb,gd,g4,g5,g10,g11,g12,-,-,HR2,-,-,-,-⟩:=cG.opn hs
 clear hs
 have gM:¬q=w.heap.size:=aB
 have hts:=hv.t
 unfold maxLen at hts
 simp only at hts
 cases hw:dS ⟨17,n,i,t,lo,hi⟩
 case false =>
  have RR:=hide (gW (s:=(cv.mk x0 x1 x2 x3 x4 x5 x6 x7 x8 x9 x10 x11 x12)) hw)
  have HW:=hide hw
  clear hw
  exact ady
 case true =>
  have HW:=hide hw
  have hn:=gT hw aB
  obtain⟨m,rfl⟩:=Int.eq_ofNat_of_zero_le hn
  have jM:=hide (gS (s:=(cv.mk x0 x1 x2 x3 x4 x5 x6 x7 x8 x9 x10 x11 x12)) hw (by show ef 17≠0;rw[lS];decide))
  clear hw
  rcases Nat.lt_or_ge m x2.length with hlt | hge
  ·
   have hbw:cE w w:=cE.refl w
   (obtain⟨b1,o1,cH,cM,cN,cO,cP,mw,jr,jR,jI,hA1,hS1,hl1,hx1,hv1,eY,eG,fa,dY,er,db,de,dq,dy,dz⟩:=cz.at HR2.out m hlt;subst hA1;have jh:=hide (Dat.cC.bel hbw hv1);have hh1:=hbw.box b1 hl1;have hw1:=ak hl1 (cE.size hbw);replace db:=(hh1 _).trans db;replace de:=(hh1 _).trans de;replace dq:=(hh1 _).trans dq;replace dy:=(hh1 _).trans dy;replace dz:=(hh1 _).trans dz;have gv:=hide hx1;have fJ:=hide dY;have jq:=hide er;clear hh1 hv1 hx1 hS1 dY er)
   have hne1:¬b1=w.heap.size:=aB
   have hi1:(m:Int)<(x2.length:Int):=aB
   have hll:=fJ.out.1
   have hlm:=fJ.out.2.1
   simp only[aj]at hll
   unfold maxLen at hlm
   have HO:=hide (iS (s:=(cv.mk x0 x1 x2 x3 x4 x5 x6 x7 x8 x9 x10 x11 x12)) (v:=⟨17,m,i,t,lo,hi⟩) aO (show x2[(m:Int).toNat]=_ from gv.out))
   by_cases hk:cH=8
   ·
    subst hk
    have RR:=hide (show inB (cv.mk x0 x1 x2 x3 x4 x5 x6 x7 x8 x9 x10 x11 x12) ⟨17,m,i,t,lo,hi⟩=true by rw[jM.out,HO.out];simp only[cz.kind,cz.items,lS];simp)
    exact adz
   ·
    have fk:(cH != 8)=true:=aL
    have RR:=hide (show inB (cv.mk x0 x1 x2 x3 x4 x5 x6 x7 x8 x9 x10 x11 x12) ⟨17,m,i,t,lo,hi⟩=false by rw[jM.out,HO.out];simp only[cz.kind,cz.items,lS];simp[hk])
    clear hk
    exact adz
  ·
   have RR:=hide (jM.out.trans (jy aP))
   have dd:decide (x2.length<=m)=true:=cq
   exact ady
theorem Kw (n i:Int) (t:ByteArray) (lo hi:Int) (s:cv):pU 45 s ⟨19,n,i,t,lo,hi⟩:=by
 intro S q w hs hv
 obtain⟨x0,x1,x2,x3,x4,x5,x6,x7,x8,x9,x10,x11,x12⟩:=s
 have jF:=hide hs
 obtain⟨A0,c0,A1,c1,A2,c2,A3,c3,A6,c6,A7,c7,A8,c8,hq,e0,e1,e2,e3,e4,e5,e6,e7,e8,e9,e10,e11,e12,gg,hcm0,ga,hcm1,fB,hcm2,fL,fV,fW,fZ,gh,gi,gb,gd,g4,g5,g10,g11,g12,-,-,HR2,-,-,-,-⟩:=cG.opn hs
 clear hs
 have gM:¬q=w.heap.size:=aB
 have hts:=hv.t
 unfold maxLen at hts
 simp only at hts
 cases hw:dS ⟨19,n,i,t,lo,hi⟩
 case false =>
  have RR:=hide (gW (s:=(cv.mk x0 x1 x2 x3 x4 x5 x6 x7 x8 x9 x10 x11 x12)) hw)
  have HW:=hide hw
  clear hw
  exact adA
 case true =>
  have HW:=hide hw
  have hn:=gT hw aB
  obtain⟨m,rfl⟩:=Int.eq_ofNat_of_zero_le hn
  have jM:=hide (gS (s:=(cv.mk x0 x1 x2 x3 x4 x5 x6 x7 x8 x9 x10 x11 x12)) hw (by show ef 19≠0;rw[nZ];decide))
  clear hw
  rcases Nat.lt_or_ge m x2.length with hlt | hge
  ·
   have hbw:cE w w:=cE.refl w
   (obtain⟨b1,o1,cH,cM,cN,cO,cP,mw,jr,jR,jI,hA1,hS1,hl1,hx1,hv1,eY,eG,fa,dY,er,db,de,dq,dy,dz⟩:=cz.at HR2.out m hlt;subst hA1;have jh:=hide (Dat.cC.bel hbw hv1);have hh1:=hbw.box b1 hl1;have hw1:=ak hl1 (cE.size hbw);replace db:=(hh1 _).trans db;replace de:=(hh1 _).trans de;replace dq:=(hh1 _).trans dq;replace dy:=(hh1 _).trans dy;replace dz:=(hh1 _).trans dz;have gv:=hide hx1;have fJ:=hide dY;have jq:=hide er;clear hh1 hv1 hx1 hS1 dY er)
   have hne1:¬b1=w.heap.size:=aB
   have hi1:(m:Int)<(x2.length:Int):=aB
   have hll:=fJ.out.1
   have hlm:=fJ.out.2.1
   simp only[aj]at hll
   unfold maxLen at hlm
   have HO:=hide (iS (s:=(cv.mk x0 x1 x2 x3 x4 x5 x6 x7 x8 x9 x10 x11 x12)) (v:=⟨19,m,i,t,lo,hi⟩) aO (show x2[(m:Int).toNat]=_ from gv.out))
   by_cases hk:cH=1
   ·
    subst hk
    have RR:=hide (show inB (cv.mk x0 x1 x2 x3 x4 x5 x6 x7 x8 x9 x10 x11 x12) ⟨19,m,i,t,lo,hi⟩=true by rw[jM.out,HO.out];simp only[cz.kind,cz.items,nZ];simp)
    exact adB
   ·
    have fk:(cH != 1)=true:=aL
    have RR:=hide (show inB (cv.mk x0 x1 x2 x3 x4 x5 x6 x7 x8 x9 x10 x11 x12) ⟨19,m,i,t,lo,hi⟩=false by rw[jM.out,HO.out];simp only[cz.kind,cz.items,nZ];simp[hk])
    clear hk
    exact adB
  ·
   have RR:=hide (jM.out.trans (jy aP))
   have dd:decide (x2.length<=m)=true:=cq
   exact adA
theorem Kx (n i:Int) (t:ByteArray) (lo hi:Int) (s:cv):pU 45 s ⟨20,n,i,t,lo,hi⟩:=by
 intro S q w hs hv
 obtain⟨x0,x1,x2,x3,x4,x5,x6,x7,x8,x9,x10,x11,x12⟩:=s
 have jF:=hide hs
 obtain⟨A0,c0,A1,c1,A2,c2,A3,c3,A6,c6,A7,c7,A8,c8,hq,e0,e1,e2,e3,e4,e5,e6,e7,e8,e9,e10,e11,e12,gg,hcm0,ga,hcm1,fB,hcm2,fL,fV,fW,fZ,gh,gi,gb,gd,g4,g5,g10,g11,g12,-,-,HR2,-,-,-,-⟩:=cG.opn hs
 clear hs
 have gM:¬q=w.heap.size:=aB
 have hts:=hv.t
 unfold maxLen at hts
 simp only at hts
 cases hw:dS ⟨20,n,i,t,lo,hi⟩
 case false =>
  have RR:=hide (gW (s:=(cv.mk x0 x1 x2 x3 x4 x5 x6 x7 x8 x9 x10 x11 x12)) hw)
  have HW:=hide hw
  clear hw
  exact adC
 case true =>
  have HW:=hide hw
  have hn:=gT hw aB
  obtain⟨m,rfl⟩:=Int.eq_ofNat_of_zero_le hn
  have jM:=hide (gS (s:=(cv.mk x0 x1 x2 x3 x4 x5 x6 x7 x8 x9 x10 x11 x12)) hw (by show ef 20≠0;rw[oa];decide))
  clear hw
  rcases Nat.lt_or_ge m x2.length with hlt | hge
  ·
   have hbw:cE w w:=cE.refl w
   (obtain⟨b1,o1,cH,cM,cN,cO,cP,mw,jr,jR,jI,hA1,hS1,hl1,hx1,hv1,eY,eG,fa,dY,er,db,de,dq,dy,dz⟩:=cz.at HR2.out m hlt;subst hA1;have jh:=hide (Dat.cC.bel hbw hv1);have hh1:=hbw.box b1 hl1;have hw1:=ak hl1 (cE.size hbw);replace db:=(hh1 _).trans db;replace de:=(hh1 _).trans de;replace dq:=(hh1 _).trans dq;replace dy:=(hh1 _).trans dy;replace dz:=(hh1 _).trans dz;have gv:=hide hx1;have fJ:=hide dY;have jq:=hide er;clear hh1 hv1 hx1 hS1 dY er)
   have hne1:¬b1=w.heap.size:=aB
   have hi1:(m:Int)<(x2.length:Int):=aB
   have hll:=fJ.out.1
   have hlm:=fJ.out.2.1
   simp only[aj]at hll
   unfold maxLen at hlm
   have HO:=hide (iS (s:=(cv.mk x0 x1 x2 x3 x4 x5 x6 x7 x8 x9 x10 x11 x12)) (v:=⟨20,m,i,t,lo,hi⟩) aO (show x2[(m:Int).toNat]=_ from gv.out))
   by_cases hk:cH=9
   ·
    subst hk
    have RR:=hide (show inB (cv.mk x0 x1 x2 x3 x4 x5 x6 x7 x8 x9 x10 x11 x12) ⟨20,m,i,t,lo,hi⟩=true by rw[jM.out,HO.out];simp only[cz.kind,cz.items,oa];simp)
    exact adD
   ·
    have fk:(cH != 9)=true:=aL
    have RR:=hide (show inB (cv.mk x0 x1 x2 x3 x4 x5 x6 x7 x8 x9 x10 x11 x12) ⟨20,m,i,t,lo,hi⟩=false by rw[jM.out,HO.out];simp only[cz.kind,cz.items,oa];simp[hk])
    clear hk
    exact adD
  ·
   have RR:=hide (jM.out.trans (jy aP))
   have dd:decide (x2.length<=m)=true:=cq
   exact adC
end Go.Proofs.YtjngkknbpfgdcaaGreatDoor
