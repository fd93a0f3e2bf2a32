import Derived.Test.YtjngkknbpfgdcaaGreatDoorPr
import Derived.Test.YtjngkknbpfgdcaaGreatDoorPS2
set_option linter.unusedVariables false
set_option linter.unusedSimpArgs false
set_option maxRecDepth 100000
set_option maxHeartbeats 8000000
namespace Go.Proofs.YtjngkknbpfgdcaaGreatDoor
open Go.RowKit
--%quiet
theorem Kq (n i:Int) (t:ByteArray) (lo hi:Int) (s:cv):pU 45 s ⟨11,n,i,t,lo,hi⟩:=by
 intro S q w hs hv
 obtain⟨x0,x1,x2,x3,x4,x5,x6,x7,x8,x9,x10,x11,x12⟩:=s
 have jF:=hide hs
 obtain⟨A0,c0,A1,c1,A2,c2,A3,c3,A6,c6,A7,c7,A8,c8,hq,e0,e1,e2,e3,e4,e5,e6,e7,e8,e9,e10,e11,e12,gg,hcm0,ga,hcm1,fB,hcm2,fL,fV,fW,fZ,gh,gi,gb,gd,g4,g5,g10,g11,g12,-,-,HR2,-,-,-,-⟩:=cG.opn hs
 clear hs
 have gM:¬q=w.heap.size:=aB
 have hts:=hv.t
 unfold maxLen at hts
 simp only at hts
 cases hw:dS ⟨11,n,i,t,lo,hi⟩
 case false =>
  have RR:=hide (gW (s:=(cv.mk x0 x1 x2 x3 x4 x5 x6 x7 x8 x9 x10 x11 x12)) hw)
  have HW:=hide hw
  clear hw
  exact adq
 case true =>
  have HW:=hide hw
  have hn:=gT hw aB
  obtain⟨m,rfl⟩:=Int.eq_ofNat_of_zero_le hn
  have jM:=hide (gS (s:=(cv.mk x0 x1 x2 x3 x4 x5 x6 x7 x8 x9 x10 x11 x12)) hw (by show ef 11≠0;rw[nW];decide))
  clear hw
  rcases Nat.lt_or_ge m x2.length with hlt | hge
  ·
   have hbw:cE w w:=cE.refl w
   (obtain⟨b1,o1,cH,cM,cN,cO,cP,mw,jr,jR,jI,hA1,hS1,hl1,hx1,hv1,eY,eG,fa,dY,er,db,de,dq,dy,dz⟩:=cz.at HR2.out m hlt;subst hA1;have jh:=hide (Dat.cC.bel hbw hv1);have hh1:=hbw.box b1 hl1;have hw1:=ak hl1 (cE.size hbw);replace db:=(hh1 _).trans db;replace de:=(hh1 _).trans de;replace dq:=(hh1 _).trans dq;replace dy:=(hh1 _).trans dy;replace dz:=(hh1 _).trans dz;have gv:=hide hx1;have fJ:=hide dY;have jq:=hide er;clear hh1 hv1 hx1 hS1 dY er)
   have hne1:¬b1=w.heap.size:=aB
   have hi1:(m:Int)<(x2.length:Int):=aB
   have hll:=fJ.out.1
   have hlm:=fJ.out.2.1
   simp only[aj]at hll
   unfold maxLen at hlm
   have HO:=hide (iS (s:=(cv.mk x0 x1 x2 x3 x4 x5 x6 x7 x8 x9 x10 x11 x12)) (v:=⟨11,m,i,t,lo,hi⟩) aO (show x2[(m:Int).toNat]=_ from gv.out))
   by_cases hk:cH=6
   ·
    subst hk
    have RR:=hide (show inB (cv.mk x0 x1 x2 x3 x4 x5 x6 x7 x8 x9 x10 x11 x12) ⟨11,m,i,t,lo,hi⟩=true by rw[jM.out,HO.out];simp only[cz.kind,cz.items,nW];simp)
    exact adr
   ·
    have fk:(cH != 6)=true:=aL
    have RR:=hide (show inB (cv.mk x0 x1 x2 x3 x4 x5 x6 x7 x8 x9 x10 x11 x12) ⟨11,m,i,t,lo,hi⟩=false by rw[jM.out,HO.out];simp only[cz.kind,cz.items,nW];simp[hk])
    clear hk
    exact adr
  ·
   have RR:=hide (jM.out.trans (jy aP))
   have dd:decide (x2.length<=m)=true:=cq
   exact adq
theorem Kr (n i:Int) (t:ByteArray) (lo hi:Int) (s:cv):pU 45 s ⟨12,n,i,t,lo,hi⟩:=by
 intro S q w hs hv
 obtain⟨x0,x1,x2,x3,x4,x5,x6,x7,x8,x9,x10,x11,x12⟩:=s
 have jF:=hide hs
 obtain⟨A0,c0,A1,c1,A2,c2,A3,c3,A6,c6,A7,c7,A8,c8,hq,e0,e1,e2,e3,e4,e5,e6,e7,e8,e9,e10,e11,e12,gg,hcm0,ga,hcm1,fB,hcm2,fL,fV,fW,fZ,gh,gi,gb,gd,g4,g5,g10,g11,g12,-,-,HR2,-,-,-,-⟩:=cG.opn hs
 clear hs
 have gM:¬q=w.heap.size:=aB
 have hts:=hv.t
 unfold maxLen at hts
 simp only at hts
 cases hw:dS ⟨12,n,i,t,lo,hi⟩
 case false =>
  have RR:=hide (gW (s:=(cv.mk x0 x1 x2 x3 x4 x5 x6 x7 x8 x9 x10 x11 x12)) hw)
  have HW:=hide hw
  clear hw
  exact ads
 case true =>
  have HW:=hide hw
  have hn:=gT hw aB
  obtain⟨m,rfl⟩:=Int.eq_ofNat_of_zero_le hn
  have jM:=hide (gS (s:=(cv.mk x0 x1 x2 x3 x4 x5 x6 x7 x8 x9 x10 x11 x12)) hw (by show ef 12≠0;rw[nX];decide))
  clear hw
  rcases Nat.lt_or_ge m x2.length with hlt | hge
  ·
   have hbw:cE w w:=cE.refl w
   (obtain⟨b1,o1,cH,cM,cN,cO,cP,mw,jr,jR,jI,hA1,hS1,hl1,hx1,hv1,eY,eG,fa,dY,er,db,de,dq,dy,dz⟩:=cz.at HR2.out m hlt;subst hA1;have jh:=hide (Dat.cC.bel hbw hv1);have hh1:=hbw.box b1 hl1;have hw1:=ak hl1 (cE.size hbw);replace db:=(hh1 _).trans db;replace de:=(hh1 _).trans de;replace dq:=(hh1 _).trans dq;replace dy:=(hh1 _).trans dy;replace dz:=(hh1 _).trans dz;have gv:=hide hx1;have fJ:=hide dY;have jq:=hide er;clear hh1 hv1 hx1 hS1 dY er)
   have hne1:¬b1=w.heap.size:=aB
   have hi1:(m:Int)<(x2.length:Int):=aB
   have hll:=fJ.out.1
   have hlm:=fJ.out.2.1
   simp only[aj]at hll
   unfold maxLen at hlm
   have HO:=hide (iS (s:=(cv.mk x0 x1 x2 x3 x4 x5 x6 x7 x8 x9 x10 x11 x12)) (v:=⟨12,m,i,t,lo,hi⟩) aO (show x2[(m:Int).toNat]=_ from gv.out))
   by_cases hk:cH=7
   ·
    subst hk
    have RR:=hide (show inB (cv.mk x0 x1 x2 x3 x4 x5 x6 x7 x8 x9 x10 x11 x12) ⟨12,m,i,t,lo,hi⟩=true by rw[jM.out,HO.out];simp only[cz.kind,cz.items,nX];simp)
    exact adt
   ·
    have fk:(cH != 7)=true:=aL
    have RR:=hide (show inB (cv.mk x0 x1 x2 x3 x4 x5 x6 x7 x8 x9 x10 x11 x12) ⟨12,m,i,t,lo,hi⟩=false by rw[jM.out,HO.out];simp only[cz.kind,cz.items,nX];simp[hk])
    clear hk
    exact adt
  ·
   have RR:=hide (jM.out.trans (jy aP))
   have dd:decide (x2.length<=m)=true:=cq
   exact ads
theorem Ks (n i:Int) (t:ByteArray) (lo hi:Int) (s:cv):pU 45 s ⟨13,n,i,t,lo,hi⟩:=by
 intro S q w hs hv
 obtain⟨x0,x1,x2,x3,x4,x5,x6,x7,x8,x9,x10,x11,x12⟩:=s
 have jF:=hide hs
 obtain⟨A0,c0,A1,c1,A2,c2,A3,c3,A6,c6,A7,c7,A8,c8,hq,e0,e1,e2,e3,e4,e5,e6,e7,e8,e9,e10,e11,e12,gg,hcm0,ga,hcm1,fB,hcm2,fL,fV,fW,fZ,gh,gi,gb,gd,g4,g5,g10,g11,g12,-,-,HR2,-,-,-,-⟩:=cG.opn hs
 clear hs
 have gM:¬q=w.heap.size:=aB
 have hts:=hv.t
 unfold maxLen at hts
 simp only at hts
 cases hw:dS ⟨13,n,i,t,lo,hi⟩
 case false =>
  have RR:=hide (gW (s:=(cv.mk x0 x1 x2 x3 x4 x5 x6 x7 x8 x9 x10 x11 x12)) hw)
  have HW:=hide hw
  clear hw
  exact adu
 case true =>
  have HW:=hide hw
  have hn:=gT hw aB
  obtain⟨m,rfl⟩:=Int.eq_ofNat_of_zero_le hn
  have jM:=hide (gS (s:=(cv.mk x0 x1 x2 x3 x4 x5 x6 x7 x8 x9 x10 x11 x12)) hw (by show ef 13≠0;rw[lQ];decide))
  have hi0:=mP hw aB
  clear hw
  rcases Nat.lt_or_ge m x2.length with hlt | hge
  ·
   have hbw:cE w w:=cE.refl w
   (obtain⟨b1,o1,cH,cM,cN,cO,cP,mw,jr,jR,jI,hA1,hS1,hl1,hx1,hv1,eY,eG,fa,dY,er,db,de,dq,dy,dz⟩:=cz.at HR2.out m hlt;subst hA1;have jh:=hide (Dat.cC.bel hbw hv1);have hh1:=hbw.box b1 hl1;have hw1:=ak hl1 (cE.size hbw);replace db:=(hh1 _).trans db;replace de:=(hh1 _).trans de;replace dq:=(hh1 _).trans dq;replace dy:=(hh1 _).trans dy;replace dz:=(hh1 _).trans dz;have gv:=hide hx1;have fJ:=hide dY;have jq:=hide er;clear hh1 hv1 hx1 hS1 dY er)
   have hne1:¬b1=w.heap.size:=aB
   have hi1:(m:Int)<(x2.length:Int):=aB
   have hll:=fJ.out.1
   have hlm:=fJ.out.2.1
   simp only[aj]at hll
   unfold maxLen at hlm
   have HO:=hide (iS (s:=(cv.mk x0 x1 x2 x3 x4 x5 x6 x7 x8 x9 x10 x11 x12)) (v:=⟨13,m,i,t,lo,hi⟩) aO (show x2[(m:Int).toNat]=_ from gv.out))
   by_cases hk:cH=1
   ·
    subst hk
    by_cases hix:i<(cO.length:Int)
    ·
     have RR:=hide (show inB (cv.mk x0 x1 x2 x3 x4 x5 x6 x7 x8 x9 x10 x11 x12) ⟨13,m,i,t,lo,hi⟩=true by rw[jM.out,HO.out];simp only[cz.kind,cz.items,lQ];simp[hix])
     have di:decide (i<(cO.length:Int))=true:=cu
     exact ZE
    ·
     have RR:=hide (show inB (cv.mk x0 x1 x2 x3 x4 x5 x6 x7 x8 x9 x10 x11 x12) ⟨13,m,i,t,lo,hi⟩=false by rw[jM.out,HO.out];simp only[cz.kind,cz.items,lQ];simp[hix])
     have di:decide (i<(cO.length:Int))=false:=cu
     exact ZE
   ·
    have fk:(cH != 1)=true:=aL
    have RR:=hide (show inB (cv.mk x0 x1 x2 x3 x4 x5 x6 x7 x8 x9 x10 x11 x12) ⟨13,m,i,t,lo,hi⟩=false by rw[jM.out,HO.out];simp only[cz.kind,cz.items,lQ];simp[hk])
    clear hk
    exact ZE
  ·
   have RR:=hide (jM.out.trans (jy aP))
   have dd:decide (x2.length<=m)=true:=cq
   exact adu
theorem Kt (n i:Int) (t:ByteArray) (lo hi:Int) (s:cv):pU 45 s ⟨15,n,i,t,lo,hi⟩:=by
 intro S q w hs hv
 obtain⟨x0,x1,x2,x3,x4,x5,x6,x7,x8,x9,x10,x11,x12⟩:=s
 have jF:=hide hs
 obtain⟨A0,c0,A1,c1,A2,c2,A3,c3,A6,c6,A7,c7,A8,c8,hq,e0,e1,e2,e3,e4,e5,e6,e7,e8,e9,e10,e11,e12,gg,hcm0,ga,hcm1,fB,hcm2,fL,fV,fW,fZ,gh,gi,gb,gd,g4,g5,g10,g11,g12,-,-,HR2,-,-,-,-⟩:=cG.opn hs
 clear hs
 have gM:¬q=w.heap.size:=aB
 have hts:=hv.t
 unfold maxLen at hts
 simp only at hts
 cases hw:dS ⟨15,n,i,t,lo,hi⟩
 case false =>
  have RR:=hide (gW (s:=(cv.mk x0 x1 x2 x3 x4 x5 x6 x7 x8 x9 x10 x11 x12)) hw)
  have HW:=hide hw
  clear hw
  exact adv
 case true =>
  have HW:=hide hw
  have hn:=gT hw aB
  obtain⟨m,rfl⟩:=Int.eq_ofNat_of_zero_le hn
  have jM:=hide (gS (s:=(cv.mk x0 x1 x2 x3 x4 x5 x6 x7 x8 x9 x10 x11 x12)) hw (by show ef 15≠0;rw[nY];decide))
  clear hw
  rcases Nat.lt_or_ge m x2.length with hlt | hge
  ·
   have hbw:cE w w:=cE.refl w
   (obtain⟨b1,o1,cH,cM,cN,cO,cP,mw,jr,jR,jI,hA1,hS1,hl1,hx1,hv1,eY,eG,fa,dY,er,db,de,dq,dy,dz⟩:=cz.at HR2.out m hlt;subst hA1;have jh:=hide (Dat.cC.bel hbw hv1);have hh1:=hbw.box b1 hl1;have hw1:=ak hl1 (cE.size hbw);replace db:=(hh1 _).trans db;replace de:=(hh1 _).trans de;replace dq:=(hh1 _).trans dq;replace dy:=(hh1 _).trans dy;replace dz:=(hh1 _).trans dz;have gv:=hide hx1;have fJ:=hide dY;have jq:=hide er;clear hh1 hv1 hx1 hS1 dY er)
   have hne1:¬b1=w.heap.size:=aB
   have hi1:(m:Int)<(x2.length:Int):=aB
   have hll:=fJ.out.1
   have hlm:=fJ.out.2.1
   simp only[aj]at hll
   unfold maxLen at hlm
   have HO:=hide (iS (s:=(cv.mk x0 x1 x2 x3 x4 x5 x6 x7 x8 x9 x10 x11 x12)) (v:=⟨15,m,i,t,lo,hi⟩) aO (show x2[(m:Int).toNat]=_ from gv.out))
   by_cases hk:cH=2
   ·
    subst hk
    have RR:=hide (show inB (cv.mk x0 x1 x2 x3 x4 x5 x6 x7 x8 x9 x10 x11 x12) ⟨15,m,i,t,lo,hi⟩=true by rw[jM.out,HO.out];simp only[cz.kind,cz.items,nY];simp)
    exact adw
   ·
    have fk:(cH != 2)=true:=aL
    have RR:=hide (show inB (cv.mk x0 x1 x2 x3 x4 x5 x6 x7 x8 x9 x10 x11 x12) ⟨15,m,i,t,lo,hi⟩=false by rw[jM.out,HO.out];simp only[cz.kind,cz.items,nY];simp[hk])
    clear hk
    exact adw
  ·
   have RR:=hide (jM.out.trans (jy aP))
   have dd:decide (x2.length<=m)=true:=cq
   exact adv
end Go.Proofs.YtjngkknbpfgdcaaGreatDoor
