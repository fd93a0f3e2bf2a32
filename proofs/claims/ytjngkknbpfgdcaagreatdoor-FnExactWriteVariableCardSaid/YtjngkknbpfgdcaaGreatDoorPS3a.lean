import Derived.Test.YtjngkknbpfgdcaaGreatDoorPr
import Derived.Test.YtjngkknbpfgdcaaGreatDoorPS3
set_option linter.unusedVariables false
set_option linter.unusedSimpArgs false
set_option maxRecDepth 100000
set_option maxHeartbeats 8000000
namespace Go.Proofs.YtjngkknbpfgdcaaGreatDoor
open Go.RowKit
--%quiet
theorem O6 (n i:Int) (t:ByteArray) (lo hi:Int) (s:cv):pU 27 s ⟨4,n,i,t,lo,hi⟩:=by
 intro S q w hs hv
 obtain⟨x0,x1,x2,x3,x4,x5,x6,x7,x8,x9,x10,x11,x12⟩:=s
 have jF:=hide hs
 obtain⟨A0,c0,A1,c1,A2,c2,A3,c3,A6,c6,A7,c7,A8,c8,hq,e0,e1,e2,e3,e4,e5,e6,e7,e8,e9,e10,e11,e12,gg,hcm0,ga,hcm1,fB,hcm2,fL,fV,fW,fZ,gh,gi,gb,gd,g4,g5,g10,g11,g12,-,-,HR2,-,-,-,-⟩:=cG.opn hs
 clear hs
 have gM:¬q=w.heap.size:=aB
 have hts:=hv.t
 unfold maxLen at hts
 simp only at hts
 cases hw:dS ⟨4,n,i,t,lo,hi⟩
 case false =>
  exact pV
 case true =>
  have HW:=hide hw
  have hn:=gT hw aB
  have jM:=hide ((gS (s:=(cv.mk x0 x1 x2 x3 x4 x5 x6 x7 x8 x9 x10 x11 x12)) hw (by show ef 4≠0;rw[p9];decide)).trans (lg hn aK))
  clear hw
  cases hh:hasB (cv.mk x0 x1 x2 x3 x4 x5 x6 x7 x8 x9 x10 x11 x12) n 2
  ·
   have RR:=hide (show inB (cv.mk x0 x1 x2 x3 x4 x5 x6 x7 x8 x9 x10 x11 x12) ⟨4,n,i,t,lo,hi⟩=false by rw[jM.out];show hasB _ n (ef 4)=_;rw[p9];exact hh)
   exact Cv
  ·
   have RR:=hide (show inB (cv.mk x0 x1 x2 x3 x4 x5 x6 x7 x8 x9 x10 x11 x12) ⟨4,n,i,t,lo,hi⟩=true by rw[jM.out];show hasB _ n (ef 4)=_;rw[p9];exact hh)
   exact Cv
theorem O7 (n i:Int) (t:ByteArray) (lo hi:Int) (s:cv):pU 27 s ⟨5,n,i,t,lo,hi⟩:=by
 intro S q w hs hv
 obtain⟨x0,x1,x2,x3,x4,x5,x6,x7,x8,x9,x10,x11,x12⟩:=s
 have jF:=hide hs
 obtain⟨A0,c0,A1,c1,A2,c2,A3,c3,A6,c6,A7,c7,A8,c8,hq,e0,e1,e2,e3,e4,e5,e6,e7,e8,e9,e10,e11,e12,gg,hcm0,ga,hcm1,fB,hcm2,fL,fV,fW,fZ,gh,gi,gb,gd,g4,g5,g10,g11,g12,-,-,HR2,-,-,-,-⟩:=cG.opn hs
 clear hs
 have gM:¬q=w.heap.size:=aB
 have hts:=hv.t
 unfold maxLen at hts
 simp only at hts
 cases hw:dS ⟨5,n,i,t,lo,hi⟩
 case false =>
  exact pV
 case true =>
  have HW:=hide hw
  have hn:=gT hw aB
  have jM:=hide ((gS (s:=(cv.mk x0 x1 x2 x3 x4 x5 x6 x7 x8 x9 x10 x11 x12)) hw (by show ef 5≠0;rw[ny];decide)).trans (lg hn aK))
  clear hw
  cases hh:hasB (cv.mk x0 x1 x2 x3 x4 x5 x6 x7 x8 x9 x10 x11 x12) n 3
  ·
   have RR:=hide (show inB (cv.mk x0 x1 x2 x3 x4 x5 x6 x7 x8 x9 x10 x11 x12) ⟨5,n,i,t,lo,hi⟩=false by rw[jM.out];show hasB _ n (ef 5)=_;rw[ny];exact hh)
   exact Cv
  ·
   have RR:=hide (show inB (cv.mk x0 x1 x2 x3 x4 x5 x6 x7 x8 x9 x10 x11 x12) ⟨5,n,i,t,lo,hi⟩=true by rw[jM.out];show hasB _ n (ef 5)=_;rw[ny];exact hh)
   exact Cv
theorem O8 (n i:Int) (t:ByteArray) (lo hi:Int) (s:cv):pU 27 s ⟨6,n,i,t,lo,hi⟩:=by
 intro S q w hs hv
 obtain⟨x0,x1,x2,x3,x4,x5,x6,x7,x8,x9,x10,x11,x12⟩:=s
 have jF:=hide hs
 obtain⟨A0,c0,A1,c1,A2,c2,A3,c3,A6,c6,A7,c7,A8,c8,hq,e0,e1,e2,e3,e4,e5,e6,e7,e8,e9,e10,e11,e12,gg,hcm0,ga,hcm1,fB,hcm2,fL,fV,fW,fZ,gh,gi,gb,gd,g4,g5,g10,g11,g12,-,-,HR2,-,-,-,-⟩:=cG.opn hs
 clear hs
 have gM:¬q=w.heap.size:=aB
 have hts:=hv.t
 unfold maxLen at hts
 simp only at hts
 cases hw:dS ⟨6,n,i,t,lo,hi⟩
 case false =>
  exact pV
 case true =>
  have HW:=hide hw
  have hn:=gT hw aB
  have jM:=hide ((gS (s:=(cv.mk x0 x1 x2 x3 x4 x5 x6 x7 x8 x9 x10 x11 x12)) hw (by show ef 6≠0;rw[qa];decide)).trans (lg hn aK))
  clear hw
  cases hh:hasB (cv.mk x0 x1 x2 x3 x4 x5 x6 x7 x8 x9 x10 x11 x12) n 4
  ·
   have RR:=hide (show inB (cv.mk x0 x1 x2 x3 x4 x5 x6 x7 x8 x9 x10 x11 x12) ⟨6,n,i,t,lo,hi⟩=false by rw[jM.out];show hasB _ n (ef 6)=_;rw[qa];exact hh)
   exact Cv
  ·
   have RR:=hide (show inB (cv.mk x0 x1 x2 x3 x4 x5 x6 x7 x8 x9 x10 x11 x12) ⟨6,n,i,t,lo,hi⟩=true by rw[jM.out];show hasB _ n (ef 6)=_;rw[qa];exact hh)
   exact Cv
theorem O9 (n i:Int) (t:ByteArray) (lo hi:Int) (s:cv):pU 27 s ⟨7,n,i,t,lo,hi⟩:=by
 intro S q w hs hv
 obtain⟨x0,x1,x2,x3,x4,x5,x6,x7,x8,x9,x10,x11,x12⟩:=s
 have jF:=hide hs
 obtain⟨A0,c0,A1,c1,A2,c2,A3,c3,A6,c6,A7,c7,A8,c8,hq,e0,e1,e2,e3,e4,e5,e6,e7,e8,e9,e10,e11,e12,gg,hcm0,ga,hcm1,fB,hcm2,fL,fV,fW,fZ,gh,gi,gb,gd,g4,g5,g10,g11,g12,-,-,HR2,-,-,-,-⟩:=cG.opn hs
 clear hs
 have gM:¬q=w.heap.size:=aB
 have hts:=hv.t
 unfold maxLen at hts
 simp only at hts
 cases hw:dS ⟨7,n,i,t,lo,hi⟩
 case false =>
  exact pV
 case true =>
  have HW:=hide hw
  have hn:=gT hw aB
  have jM:=hide ((gS (s:=(cv.mk x0 x1 x2 x3 x4 x5 x6 x7 x8 x9 x10 x11 x12)) hw (by show ef 7≠0;rw[qb];decide)).trans (lg hn aK))
  clear hw
  cases hh:hasB (cv.mk x0 x1 x2 x3 x4 x5 x6 x7 x8 x9 x10 x11 x12) n 5
  ·
   have RR:=hide (show inB (cv.mk x0 x1 x2 x3 x4 x5 x6 x7 x8 x9 x10 x11 x12) ⟨7,n,i,t,lo,hi⟩=false by rw[jM.out];show hasB _ n (ef 7)=_;rw[qb];exact hh)
   exact Cv
  ·
   have RR:=hide (show inB (cv.mk x0 x1 x2 x3 x4 x5 x6 x7 x8 x9 x10 x11 x12) ⟨7,n,i,t,lo,hi⟩=true by rw[jM.out];show hasB _ n (ef 7)=_;rw[qb];exact hh)
   exact Cv
theorem KB (n i:Int) (t:ByteArray) (lo hi:Int) (s:cv):pU 27 s ⟨11,n,i,t,lo,hi⟩:=by
 intro S q w hs hv
 obtain⟨x0,x1,x2,x3,x4,x5,x6,x7,x8,x9,x10,x11,x12⟩:=s
 have jF:=hide hs
 obtain⟨A0,c0,A1,c1,A2,c2,A3,c3,A6,c6,A7,c7,A8,c8,hq,e0,e1,e2,e3,e4,e5,e6,e7,e8,e9,e10,e11,e12,gg,hcm0,ga,hcm1,fB,hcm2,fL,fV,fW,fZ,gh,gi,gb,gd,g4,g5,g10,g11,g12,-,-,HR2,-,-,-,-⟩:=cG.opn hs
 clear hs
 have gM:¬q=w.heap.size:=aB
 have hts:=hv.t
 unfold maxLen at hts
 simp only at hts
 cases hw:dS ⟨11,n,i,t,lo,hi⟩
 case false =>
  exact pV
 case true =>
  have HW:=hide hw
  have hn:=gT hw aB
  have jM:=hide ((gS (s:=(cv.mk x0 x1 x2 x3 x4 x5 x6 x7 x8 x9 x10 x11 x12)) hw (by show ef 11≠0;rw[nW];decide)).trans (lg hn aK))
  clear hw
  cases hh:hasB (cv.mk x0 x1 x2 x3 x4 x5 x6 x7 x8 x9 x10 x11 x12) n 6
  ·
   have RR:=hide (show inB (cv.mk x0 x1 x2 x3 x4 x5 x6 x7 x8 x9 x10 x11 x12) ⟨11,n,i,t,lo,hi⟩=false by rw[jM.out];show hasB _ n (ef 11)=_;rw[nW];exact hh)
   exact Cv
  ·
   have RR:=hide (show inB (cv.mk x0 x1 x2 x3 x4 x5 x6 x7 x8 x9 x10 x11 x12) ⟨11,n,i,t,lo,hi⟩=true by rw[jM.out];show hasB _ n (ef 11)=_;rw[nW];exact hh)
   exact Cv
theorem KC (n i:Int) (t:ByteArray) (lo hi:Int) (s:cv):pU 27 s ⟨12,n,i,t,lo,hi⟩:=by
 intro S q w hs hv
 obtain⟨x0,x1,x2,x3,x4,x5,x6,x7,x8,x9,x10,x11,x12⟩:=s
 have jF:=hide hs
 obtain⟨A0,c0,A1,c1,A2,c2,A3,c3,A6,c6,A7,c7,A8,c8,hq,e0,e1,e2,e3,e4,e5,e6,e7,e8,e9,e10,e11,e12,gg,hcm0,ga,hcm1,fB,hcm2,fL,fV,fW,fZ,gh,gi,gb,gd,g4,g5,g10,g11,g12,-,-,HR2,-,-,-,-⟩:=cG.opn hs
 clear hs
 have gM:¬q=w.heap.size:=aB
 have hts:=hv.t
 unfold maxLen at hts
 simp only at hts
 cases hw:dS ⟨12,n,i,t,lo,hi⟩
 case false =>
  exact pV
 case true =>
  have HW:=hide hw
  have hn:=gT hw aB
  have jM:=hide ((gS (s:=(cv.mk x0 x1 x2 x3 x4 x5 x6 x7 x8 x9 x10 x11 x12)) hw (by show ef 12≠0;rw[nX];decide)).trans (lg hn aK))
  clear hw
  cases hh:hasB (cv.mk x0 x1 x2 x3 x4 x5 x6 x7 x8 x9 x10 x11 x12) n 7
  ·
   have RR:=hide (show inB (cv.mk x0 x1 x2 x3 x4 x5 x6 x7 x8 x9 x10 x11 x12) ⟨12,n,i,t,lo,hi⟩=false by rw[jM.out];show hasB _ n (ef 12)=_;rw[nX];exact hh)
   exact Cv
  ·
   have RR:=hide (show inB (cv.mk x0 x1 x2 x3 x4 x5 x6 x7 x8 x9 x10 x11 x12) ⟨12,n,i,t,lo,hi⟩=true by rw[jM.out];show hasB _ n (ef 12)=_;rw[nX];exact hh)
   exact Cv
--%quiet
theorem KD (n i:Int) (t:ByteArray) (lo hi:Int) (s:cv):pU 27 s ⟨13,n,i,t,lo,hi⟩:=by
 intro S q w hs hv
 obtain⟨x0,x1,x2,x3,x4,x5,x6,x7,x8,x9,x10,x11,x12⟩:=s
 have jF:=hide hs
 obtain⟨A0,c0,A1,c1,A2,c2,A3,c3,A6,c6,A7,c7,A8,c8,hq,e0,e1,e2,e3,e4,e5,e6,e7,e8,e9,e10,e11,e12,gg,hcm0,ga,hcm1,fB,hcm2,fL,fV,fW,fZ,gh,gi,gb,gd,g4,g5,g10,g11,g12,-,-,HR2,-,-,-,-⟩:=cG.opn hs
 clear hs
 have gM:¬q=w.heap.size:=aB
 have hts:=hv.t
 unfold maxLen at hts
 simp only at hts
 cases hw:dS ⟨13,n,i,t,lo,hi⟩
 case false =>
  exact pV
 case true =>
  have HW:=hide hw
  have hn:=gT hw aB
  obtain⟨m,rfl⟩:=Int.eq_ofNat_of_zero_le hn
  have jM:=hide (gS (s:=(cv.mk x0 x1 x2 x3 x4 x5 x6 x7 x8 x9 x10 x11 x12)) hw (by show ef 13≠0;rw[lQ];decide))
  have hi0:=mP hw aB
  clear hw
  rcases Nat.lt_or_ge m x2.length with hlt | hge
  ·
   have hbw:cE w w:=cE.refl w
   (obtain⟨b1,o1,cH,cM,cN,cO,cP,mw,jr,jR,jI,hA1,hS1,hl1,hx1,hv1,eY,eG,fa,dY,er,db,de,dq,dy,dz⟩:=cz.at HR2.out m hlt;subst hA1;have jh:=hide (Dat.cC.bel hbw hv1);have hh1:=hbw.box b1 hl1;have hw1:=ak hl1 (cE.size hbw);replace db:=(hh1 _).trans db;replace de:=(hh1 _).trans de;replace dq:=(hh1 _).trans dq;replace dy:=(hh1 _).trans dy;replace dz:=(hh1 _).trans dz;have gv:=hide hx1;have fJ:=hide dY;have jq:=hide er;clear hh1 hv1 hx1 hS1 dY er)
   have hne1:¬b1=w.heap.size:=aB
   have hi1:(m:Int)<(x2.length:Int):=aB
   have hll:=fJ.out.1
   have hlm:=fJ.out.2.1
   simp only[aj]at hll
   unfold maxLen at hlm
   have HO:=hide (iS (s:=(cv.mk x0 x1 x2 x3 x4 x5 x6 x7 x8 x9 x10 x11 x12)) (v:=⟨13,m,i,t,lo,hi⟩) aO (show x2[(m:Int).toNat]=_ from gv.out))
   have HB:=hide (Aw (s:=(cv.mk x0 x1 x2 x3 x4 x5 x6 x7 x8 x9 x10 x11 x12)) (n:=(m:Int)) (kd:=1) hn aO (show x2[(m:Int).toNat]=_ from gv.out))
   by_cases hk:cH=1
   ·
    subst hk
    have HH:=hide (show hasB (cv.mk x0 x1 x2 x3 x4 x5 x6 x7 x8 x9 x10 x11 x12) m 1=true by rw[HB.out];simp[cz.kind])
    by_cases hix:i<(cO.length:Int)
    ·
     have RR:=hide (show inB (cv.mk x0 x1 x2 x3 x4 x5 x6 x7 x8 x9 x10 x11 x12) ⟨13,m,i,t,lo,hi⟩=true by rw[jM.out,HO.out];simp only[cz.kind,cz.items,lQ];simp[hix])
     have di:decide (i<(cO.length:Int))=true:=cu
     exact ZH
    ·
     have RR:=hide (show inB (cv.mk x0 x1 x2 x3 x4 x5 x6 x7 x8 x9 x10 x11 x12) ⟨13,m,i,t,lo,hi⟩=false by rw[jM.out,HO.out];simp only[cz.kind,cz.items,lQ];simp[hix])
     have di:decide (i<(cO.length:Int))=false:=cu
     exact ZH
   ·
    have HH:=hide (show hasB (cv.mk x0 x1 x2 x3 x4 x5 x6 x7 x8 x9 x10 x11 x12) m 1=false by rw[HB.out];simp[cz.kind,hk])
    have RR:=hide (show inB (cv.mk x0 x1 x2 x3 x4 x5 x6 x7 x8 x9 x10 x11 x12) ⟨13,m,i,t,lo,hi⟩=false by rw[jM.out,HO.out];simp only[cz.kind,cz.items,lQ];simp[hk])
    clear hk
    exact ZH
  ·
   have RR:=hide (jM.out.trans (jy aP))
   have HH:=hide (DO (s:=(cv.mk x0 x1 x2 x3 x4 x5 x6 x7 x8 x9 x10 x11 x12)) (n:=(m:Int)) (kd:=1) aP)
   have HQ:=hide (fun (wx:World) (hx:cE w wx)=>(by have:=od (cv.mk x0 x1 x2 x3 x4 x5 x6 x7 x8 x9 x10 x11 x12) (m:Int) 1 S q wx (cG.bel hx jF.out);rw[HH.out]at this;exact this))
   go_enter Tryz.func27,Tryz.ntmps27
   exact WX
theorem KE (n i:Int) (t:ByteArray) (lo hi:Int) (s:cv):pU 27 s ⟨15,n,i,t,lo,hi⟩:=by
 intro S q w hs hv
 obtain⟨x0,x1,x2,x3,x4,x5,x6,x7,x8,x9,x10,x11,x12⟩:=s
 have jF:=hide hs
 obtain⟨A0,c0,A1,c1,A2,c2,A3,c3,A6,c6,A7,c7,A8,c8,hq,e0,e1,e2,e3,e4,e5,e6,e7,e8,e9,e10,e11,e12,gg,hcm0,ga,hcm1,fB,hcm2,fL,fV,fW,fZ,gh,gi,gb,gd,g4,g5,g10,g11,g12,-,-,HR2,-,-,-,-⟩:=cG.opn hs
 clear hs
 have gM:¬q=w.heap.size:=aB
 have hts:=hv.t
 unfold maxLen at hts
 simp only at hts
 cases hw:dS ⟨15,n,i,t,lo,hi⟩
 case false =>
  exact pV
 case true =>
  have HW:=hide hw
  have hn:=gT hw aB
  have jM:=hide ((gS (s:=(cv.mk x0 x1 x2 x3 x4 x5 x6 x7 x8 x9 x10 x11 x12)) hw (by show ef 15≠0;rw[nY];decide)).trans (lg hn aK))
  clear hw
  cases hh:hasB (cv.mk x0 x1 x2 x3 x4 x5 x6 x7 x8 x9 x10 x11 x12) n 2
  ·
   have RR:=hide (show inB (cv.mk x0 x1 x2 x3 x4 x5 x6 x7 x8 x9 x10 x11 x12) ⟨15,n,i,t,lo,hi⟩=false by rw[jM.out];show hasB _ n (ef 15)=_;rw[nY];exact hh)
   exact Cv
  ·
   have RR:=hide (show inB (cv.mk x0 x1 x2 x3 x4 x5 x6 x7 x8 x9 x10 x11 x12) ⟨15,n,i,t,lo,hi⟩=true by rw[jM.out];show hasB _ n (ef 15)=_;rw[nY];exact hh)
   exact Cv
theorem KF (n i:Int) (t:ByteArray) (lo hi:Int) (s:cv):pU 27 s ⟨16,n,i,t,lo,hi⟩:=by
 intro S q w hs hv
 obtain⟨x0,x1,x2,x3,x4,x5,x6,x7,x8,x9,x10,x11,x12⟩:=s
 have jF:=hide hs
 obtain⟨A0,c0,A1,c1,A2,c2,A3,c3,A6,c6,A7,c7,A8,c8,hq,e0,e1,e2,e3,e4,e5,e6,e7,e8,e9,e10,e11,e12,gg,hcm0,ga,hcm1,fB,hcm2,fL,fV,fW,fZ,gh,gi,gb,gd,g4,g5,g10,g11,g12,-,-,HR2,-,-,-,-⟩:=cG.opn hs
 clear hs
 have gM:¬q=w.heap.size:=aB
 have hts:=hv.t
 unfold maxLen at hts
 simp only at hts
 cases hw:dS ⟨16,n,i,t,lo,hi⟩
 case false =>
  exact pV
 case true =>
  have HW:=hide hw
  have hn:=gT hw aB
  obtain⟨m,rfl⟩:=Int.eq_ofNat_of_zero_le hn
  have jM:=hide (gS (s:=(cv.mk x0 x1 x2 x3 x4 x5 x6 x7 x8 x9 x10 x11 x12)) hw (by show ef 16≠0;rw[lR];decide))
  have hi0:=mP hw aB
  clear hw
  rcases Nat.lt_or_ge m x2.length with hlt | hge
  ·
   have hbw:cE w w:=cE.refl w
   (obtain⟨b1,o1,cH,cM,cN,cO,cP,mw,jr,jR,jI,hA1,hS1,hl1,hx1,hv1,eY,eG,fa,dY,er,db,de,dq,dy,dz⟩:=cz.at HR2.out m hlt;subst hA1;have jh:=hide (Dat.cC.bel hbw hv1);have hh1:=hbw.box b1 hl1;have hw1:=ak hl1 (cE.size hbw);replace db:=(hh1 _).trans db;replace de:=(hh1 _).trans de;replace dq:=(hh1 _).trans dq;replace dy:=(hh1 _).trans dy;replace dz:=(hh1 _).trans dz;have gv:=hide hx1;have fJ:=hide dY;have jq:=hide er;clear hh1 hv1 hx1 hS1 dY er)
   have hne1:¬b1=w.heap.size:=aB
   have hi1:(m:Int)<(x2.length:Int):=aB
   have hll:=fJ.out.1
   have hlm:=fJ.out.2.1
   simp only[aj]at hll
   unfold maxLen at hlm
   have HO:=hide (iS (s:=(cv.mk x0 x1 x2 x3 x4 x5 x6 x7 x8 x9 x10 x11 x12)) (v:=⟨16,m,i,t,lo,hi⟩) aO (show x2[(m:Int).toNat]=_ from gv.out))
   have HB:=hide (Aw (s:=(cv.mk x0 x1 x2 x3 x4 x5 x6 x7 x8 x9 x10 x11 x12)) (n:=(m:Int)) (kd:=5) hn aO (show x2[(m:Int).toNat]=_ from gv.out))
   by_cases hk:cH=5
   ·
    subst hk
    have HH:=hide (show hasB (cv.mk x0 x1 x2 x3 x4 x5 x6 x7 x8 x9 x10 x11 x12) m 5=true by rw[HB.out];simp[cz.kind])
    by_cases hix:i<(cO.length:Int)
    ·
     have RR:=hide (show inB (cv.mk x0 x1 x2 x3 x4 x5 x6 x7 x8 x9 x10 x11 x12) ⟨16,m,i,t,lo,hi⟩=true by rw[jM.out,HO.out];simp only[cz.kind,cz.items,lR];simp[hix])
     have di:decide (i<(cO.length:Int))=true:=cu
     exact ZI
    ·
     have RR:=hide (show inB (cv.mk x0 x1 x2 x3 x4 x5 x6 x7 x8 x9 x10 x11 x12) ⟨16,m,i,t,lo,hi⟩=false by rw[jM.out,HO.out];simp only[cz.kind,cz.items,lR];simp[hix])
     have di:decide (i<(cO.length:Int))=false:=cu
     exact ZI
   ·
    have HH:=hide (show hasB (cv.mk x0 x1 x2 x3 x4 x5 x6 x7 x8 x9 x10 x11 x12) m 5=false by rw[HB.out];simp[cz.kind,hk])
    have RR:=hide (show inB (cv.mk x0 x1 x2 x3 x4 x5 x6 x7 x8 x9 x10 x11 x12) ⟨16,m,i,t,lo,hi⟩=false by rw[jM.out,HO.out];simp only[cz.kind,cz.items,lR];simp[hk])
    clear hk
    exact ZI
  ·
   have RR:=hide (jM.out.trans (jy aP))
   have HH:=hide (DO (s:=(cv.mk x0 x1 x2 x3 x4 x5 x6 x7 x8 x9 x10 x11 x12)) (n:=(m:Int)) (kd:=5) aP)
   have HQ:=hide (fun (wx:World) (hx:cE w wx)=>(by have:=od (cv.mk x0 x1 x2 x3 x4 x5 x6 x7 x8 x9 x10 x11 x12) (m:Int) 5 S q wx (cG.bel hx jF.out);rw[HH.out]at this;exact this))
   go_enter Tryz.func27,Tryz.ntmps27
   exact WX
theorem KG (n i:Int) (t:ByteArray) (lo hi:Int) (s:cv):pU 27 s ⟨17,n,i,t,lo,hi⟩:=by
 intro S q w hs hv
 obtain⟨x0,x1,x2,x3,x4,x5,x6,x7,x8,x9,x10,x11,x12⟩:=s
 have jF:=hide hs
 obtain⟨A0,c0,A1,c1,A2,c2,A3,c3,A6,c6,A7,c7,A8,c8,hq,e0,e1,e2,e3,e4,e5,e6,e7,e8,e9,e10,e11,e12,gg,hcm0,ga,hcm1,fB,hcm2,fL,fV,fW,fZ,gh,gi,gb,gd,g4,g5,g10,g11,g12,-,-,HR2,-,-,-,-⟩:=cG.opn hs
 clear hs
 have gM:¬q=w.heap.size:=aB
 have hts:=hv.t
 unfold maxLen at hts
 simp only at hts
 cases hw:dS ⟨17,n,i,t,lo,hi⟩
 case false =>
  exact pV
 case true =>
  have HW:=hide hw
  have hn:=gT hw aB
  have jM:=hide ((gS (s:=(cv.mk x0 x1 x2 x3 x4 x5 x6 x7 x8 x9 x10 x11 x12)) hw (by show ef 17≠0;rw[lS];decide)).trans (lg hn aK))
  clear hw
  cases hh:hasB (cv.mk x0 x1 x2 x3 x4 x5 x6 x7 x8 x9 x10 x11 x12) n 8
  ·
   have RR:=hide (show inB (cv.mk x0 x1 x2 x3 x4 x5 x6 x7 x8 x9 x10 x11 x12) ⟨17,n,i,t,lo,hi⟩=false by rw[jM.out];show hasB _ n (ef 17)=_;rw[lS];exact hh)
   exact Cv
  ·
   have RR:=hide (show inB (cv.mk x0 x1 x2 x3 x4 x5 x6 x7 x8 x9 x10 x11 x12) ⟨17,n,i,t,lo,hi⟩=true by rw[jM.out];show hasB _ n (ef 17)=_;rw[lS];exact hh)
   exact Cv
theorem KH (n i:Int) (t:ByteArray) (lo hi:Int) (s:cv):pU 27 s ⟨19,n,i,t,lo,hi⟩:=by
 intro S q w hs hv
 obtain⟨x0,x1,x2,x3,x4,x5,x6,x7,x8,x9,x10,x11,x12⟩:=s
 have jF:=hide hs
 obtain⟨A0,c0,A1,c1,A2,c2,A3,c3,A6,c6,A7,c7,A8,c8,hq,e0,e1,e2,e3,e4,e5,e6,e7,e8,e9,e10,e11,e12,gg,hcm0,ga,hcm1,fB,hcm2,fL,fV,fW,fZ,gh,gi,gb,gd,g4,g5,g10,g11,g12,-,-,HR2,-,-,-,-⟩:=cG.opn hs
 clear hs
 have gM:¬q=w.heap.size:=aB
 have hts:=hv.t
 unfold maxLen at hts
 simp only at hts
 cases hw:dS ⟨19,n,i,t,lo,hi⟩
 case false =>
  exact pV
 case true =>
  have HW:=hide hw
  have hn:=gT hw aB
  have jM:=hide ((gS (s:=(cv.mk x0 x1 x2 x3 x4 x5 x6 x7 x8 x9 x10 x11 x12)) hw (by show ef 19≠0;rw[nZ];decide)).trans (lg hn aK))
  clear hw
  cases hh:hasB (cv.mk x0 x1 x2 x3 x4 x5 x6 x7 x8 x9 x10 x11 x12) n 1
  ·
   have RR:=hide (show inB (cv.mk x0 x1 x2 x3 x4 x5 x6 x7 x8 x9 x10 x11 x12) ⟨19,n,i,t,lo,hi⟩=false by rw[jM.out];show hasB _ n (ef 19)=_;rw[nZ];exact hh)
   exact Cv
  ·
   have RR:=hide (show inB (cv.mk x0 x1 x2 x3 x4 x5 x6 x7 x8 x9 x10 x11 x12) ⟨19,n,i,t,lo,hi⟩=true by rw[jM.out];show hasB _ n (ef 19)=_;rw[nZ];exact hh)
   exact Cv
theorem KI (n i:Int) (t:ByteArray) (lo hi:Int) (s:cv):pU 27 s ⟨20,n,i,t,lo,hi⟩:=by
 intro S q w hs hv
 obtain⟨x0,x1,x2,x3,x4,x5,x6,x7,x8,x9,x10,x11,x12⟩:=s
 have jF:=hide hs
 obtain⟨A0,c0,A1,c1,A2,c2,A3,c3,A6,c6,A7,c7,A8,c8,hq,e0,e1,e2,e3,e4,e5,e6,e7,e8,e9,e10,e11,e12,gg,hcm0,ga,hcm1,fB,hcm2,fL,fV,fW,fZ,gh,gi,gb,gd,g4,g5,g10,g11,g12,-,-,HR2,-,-,-,-⟩:=cG.opn hs
 clear hs
 have gM:¬q=w.heap.size:=aB
 have hts:=hv.t
 unfold maxLen at hts
 simp only at hts
 cases hw:dS ⟨20,n,i,t,lo,hi⟩
 case false =>
  exact pV
 case true =>
  have HW:=hide hw
  have hn:=gT hw aB
  have jM:=hide ((gS (s:=(cv.mk x0 x1 x2 x3 x4 x5 x6 x7 x8 x9 x10 x11 x12)) hw (by show ef 20≠0;rw[oa];decide)).trans (lg hn aK))
  clear hw
  cases hh:hasB (cv.mk x0 x1 x2 x3 x4 x5 x6 x7 x8 x9 x10 x11 x12) n 9
  ·
   have RR:=hide (show inB (cv.mk x0 x1 x2 x3 x4 x5 x6 x7 x8 x9 x10 x11 x12) ⟨20,n,i,t,lo,hi⟩=false by rw[jM.out];show hasB _ n (ef 20)=_;rw[oa];exact hh)
   exact Cv
  ·
   have RR:=hide (show inB (cv.mk x0 x1 x2 x3 x4 x5 x6 x7 x8 x9 x10 x11 x12) ⟨20,n,i,t,lo,hi⟩=true by rw[jM.out];show hasB _ n (ef 20)=_;rw[oa];exact hh)
   exact Cv
end Go.Proofs.YtjngkknbpfgdcaaGreatDoor
