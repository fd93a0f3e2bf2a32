import Derived.Test.YtjngkknbpfgdcaaGreatDoorPr
import Derived.Test.YtjngkknbpfgdcaaGreatDoorPS2
import Derived.Test.YtjngkknbpfgdcaaGreatDoorPA7
set_option linter.unusedVariables false
set_option linter.unusedSimpArgs false
set_option maxRecDepth 100000
set_option maxHeartbeats 8000000
namespace Go.Proofs.YtjngkknbpfgdcaaGreatDoor
open Go.RowKit
--%quiet
def adE (b:Bool) (w:World):Ending->World->Prop:=fun e w'=>e=.returned (.bool b)/\∃m,w'=w.drewN m
theorem od (s:cv) (n kd:Int) (S:Nat->Prop) (q:Nat) (w:World) (hs:cG w S q s) :
  Calls Tryz.prog 39 #[.pointer (some ⟨q,0,none⟩),.int .i64 n,.int .i64 kd] w (adE (hasB s n kd) w):=by
 obtain⟨x0,x1,x2,x3,x4,x5,x6,x7,x8,x9,x10,x11,x12⟩:=s
 have jF:=hide hs
 obtain⟨A0,c0,A1,c1,A2,c2,A3,c3,A6,c6,A7,c7,A8,c8,hq,e0,e1,e2,e3,e4,e5,e6,e7,e8,e9,e10,e11,e12,gg,hcm0,ga,hcm1,fB,hcm2,fL,fV,fW,fZ,gh,gi,gb,gd,g4,g5,g10,g11,g12,-,-,HR2,-,-,-,-⟩:=cG.opn hs
 clear hs
 have gM:¬q=w.heap.size:=aB
 rcases Int.lt_or_le n 0 with hn | hn
 ·
  have RR:=hide (show hasB (cv.mk x0 x1 x2 x3 x4 x5 x6 x7 x8 x9 x10 x11 x12) n kd=false by unfold hasB;rw[aq aB];rfl)
  exact Tb
 obtain⟨m,rfl⟩:=Int.eq_ofNat_of_zero_le hn
 rcases Nat.lt_or_ge m x2.length with hlt | hge
 ·
  have hbw:cE w w:=cE.refl w
  (obtain⟨b1,o1,cH,cM,cN,cO,cP,mw,jr,jR,jI,hA1,hS1,hl1,hx1,hv1,eY,eG,fa,dY,er,db,de,dq,dy,dz⟩:=cz.at HR2.out m hlt;subst hA1;have jh:=hide (Dat.cC.bel hbw hv1);have hh1:=hbw.box b1 hl1;have hw1:=ak hl1 (cE.size hbw);replace db:=(hh1 _).trans db;replace de:=(hh1 _).trans de;replace dq:=(hh1 _).trans dq;replace dy:=(hh1 _).trans dy;replace dz:=(hh1 _).trans dz;have gv:=hide hx1;have fJ:=hide dY;have jq:=hide er;clear hh1 hv1 hx1 hS1 dY er)
  have HO:=hide (Aw (s:=(cv.mk x0 x1 x2 x3 x4 x5 x6 x7 x8 x9 x10 x11 x12)) (n:=(m:Int)) (kd:=kd) hn aO (show x2[(m:Int).toNat]=_ from gv.out))
  by_cases hk:cH=kd
  ·
   have fk:(cH==kd)=true:=aL
   have RR:=hide (show hasB (cv.mk x0 x1 x2 x3 x4 x5 x6 x7 x8 x9 x10 x11 x12) m kd=true by rw[HO.out];simp[cz.kind,hk])
   clear hk
   exact Tb
  ·
   have fk:(cH==kd)=false:=aL
   have RR:=hide (show hasB (cv.mk x0 x1 x2 x3 x4 x5 x6 x7 x8 x9 x10 x11 x12) m kd=false by rw[HO.out];simp[cz.kind,hk])
   clear hk
   exact Tb
 ·
  have RR:=hide (DO (s:=(cv.mk x0 x1 x2 x3 x4 x5 x6 x7 x8 x9 x10 x11 x12)) (n:=(m:Int)) (kd:=kd) aP)
  have dd:decide (m<x2.length)=false:=aD
  exact Tb
theorem ql (s:cv) (n kd:Int) (S:Nat->Prop) (q:Nat) (w:World) (hs:cG w S q s) :
  Calls Tryz.prog 39 #[.pointer (some ⟨q,0,none⟩),.int .i64 n,.int .i64 kd] w fun e w'=>e=.returned (.bool (hasB s n kd))/\cE w w' :=
 (od s n kd S q w hs).mono fun _ _ ⟨h,m,hm⟩=>⟨h,hm▸cE.drewN (cE.refl w) m⟩
theorem O0 (n i:Int) (t:ByteArray) (lo hi:Int) (s:cv):pU 27 s ⟨0,n,i,t,lo,hi⟩:=by
 intro S q w hs hv
 obtain⟨x0,x1,x2,x3,x4,x5,x6,x7,x8,x9,x10,x11,x12⟩:=s
 have jF:=hide hs
 obtain⟨A0,c0,A1,c1,A2,c2,A3,c3,A6,c6,A7,c7,A8,c8,hq,e0,e1,e2,e3,e4,e5,e6,e7,e8,e9,e10,e11,e12,gg,hcm0,ga,hcm1,fB,hcm2,fL,fV,fW,fZ,gh,gi,gb,gd,g4,g5,g10,g11,g12,-,-,-,-,-,-,-⟩:=cG.opn hs
 clear hs
 have gM:¬q=w.heap.size:=aB
 have hts:=hv.t
 unfold maxLen at hts
 simp only at hts
 cases hw:dS ⟨0,n,i,t,lo,hi⟩
 case false =>
  exact pV
 case true =>
  have HW:=hide hw
  have RR:=hide (show inB (cv.mk x0 x1 x2 x3 x4 x5 x6 x7 x8 x9 x10 x11 x12) ⟨0,n,i,t,lo,hi⟩=true by unfold inB;rw[hw,if_neg (show ¬(ef 0≠0) by rw[DK];simp)];simp)
  exact I5
theorem O1 (n i:Int) (t:ByteArray) (lo hi:Int) (s:cv):pU 27 s ⟨1,n,i,t,lo,hi⟩:=by
 intro S q w hs hv
 obtain⟨x0,x1,x2,x3,x4,x5,x6,x7,x8,x9,x10,x11,x12⟩:=s
 have jF:=hide hs
 obtain⟨A0,c0,A1,c1,A2,c2,A3,c3,A6,c6,A7,c7,A8,c8,hq,e0,e1,e2,e3,e4,e5,e6,e7,e8,e9,e10,e11,e12,gg,hcm0,ga,hcm1,fB,hcm2,fL,fV,fW,fZ,gh,gi,gb,gd,g4,g5,g10,g11,g12,-,-,-,-,-,-,-⟩:=cG.opn hs
 clear hs
 have gM:¬q=w.heap.size:=aB
 have hts:=hv.t
 unfold maxLen at hts
 simp only at hts
 cases hw:dS ⟨1,n,i,t,lo,hi⟩
 case false =>
  exact pV
 case true =>
  have HW:=hide hw
  have RR:=hide (show inB (cv.mk x0 x1 x2 x3 x4 x5 x6 x7 x8 x9 x10 x11 x12) ⟨1,n,i,t,lo,hi⟩=true by unfold inB;rw[hw,if_neg (show ¬(ef 1≠0) by rw[DL];simp)];simp)
  exact I5
theorem O2 (n i:Int) (t:ByteArray) (lo hi:Int) (s:cv):pU 27 s ⟨2,n,i,t,lo,hi⟩:=by
 intro S q w hs hv
 obtain⟨x0,x1,x2,x3,x4,x5,x6,x7,x8,x9,x10,x11,x12⟩:=s
 have jF:=hide hs
 obtain⟨A0,c0,A1,c1,A2,c2,A3,c3,A6,c6,A7,c7,A8,c8,hq,e0,e1,e2,e3,e4,e5,e6,e7,e8,e9,e10,e11,e12,gg,hcm0,ga,hcm1,fB,hcm2,fL,fV,fW,fZ,gh,gi,gb,gd,g4,g5,g10,g11,g12,-,-,-,-,-,-,-⟩:=cG.opn hs
 clear hs
 have gM:¬q=w.heap.size:=aB
 have hts:=hv.t
 unfold maxLen at hts
 simp only at hts
 cases hw:dS ⟨2,n,i,t,lo,hi⟩
 case false =>
  exact pV
 case true =>
  have HW:=hide hw
  have RR:=hide (show inB (cv.mk x0 x1 x2 x3 x4 x5 x6 x7 x8 x9 x10 x11 x12) ⟨2,n,i,t,lo,hi⟩=true by unfold inB;rw[hw,if_neg (show ¬(ef 2≠0) by rw[DM];simp)];simp)
  exact I5
theorem O3 (n i:Int) (t:ByteArray) (lo hi:Int) (s:cv):pU 27 s ⟨3,n,i,t,lo,hi⟩:=by
 intro S q w hs hv
 obtain⟨x0,x1,x2,x3,x4,x5,x6,x7,x8,x9,x10,x11,x12⟩:=s
 have jF:=hide hs
 obtain⟨A0,c0,A1,c1,A2,c2,A3,c3,A6,c6,A7,c7,A8,c8,hq,e0,e1,e2,e3,e4,e5,e6,e7,e8,e9,e10,e11,e12,gg,hcm0,ga,hcm1,fB,hcm2,fL,fV,fW,fZ,gh,gi,gb,gd,g4,g5,g10,g11,g12,-,-,-,-,-,-,-⟩:=cG.opn hs
 clear hs
 have gM:¬q=w.heap.size:=aB
 have hts:=hv.t
 unfold maxLen at hts
 simp only at hts
 cases hw:dS ⟨3,n,i,t,lo,hi⟩
 case false =>
  exact pV
 case true =>
  have HW:=hide hw
  have RR:=hide (show inB (cv.mk x0 x1 x2 x3 x4 x5 x6 x7 x8 x9 x10 x11 x12) ⟨3,n,i,t,lo,hi⟩=true by unfold inB;rw[hw,if_neg (show ¬(ef 3≠0) by rw[DN];simp)];simp)
  exact I5
theorem O4 (n i:Int) (t:ByteArray) (lo hi:Int) (s:cv):pU 27 s ⟨8,n,i,t,lo,hi⟩:=by
 intro S q w hs hv
 obtain⟨x0,x1,x2,x3,x4,x5,x6,x7,x8,x9,x10,x11,x12⟩:=s
 have jF:=hide hs
 obtain⟨A0,c0,A1,c1,A2,c2,A3,c3,A6,c6,A7,c7,A8,c8,hq,e0,e1,e2,e3,e4,e5,e6,e7,e8,e9,e10,e11,e12,gg,hcm0,ga,hcm1,fB,hcm2,fL,fV,fW,fZ,gh,gi,gb,gd,g4,g5,g10,g11,g12,-,-,-,-,-,-,-⟩:=cG.opn hs
 clear hs
 have gM:¬q=w.heap.size:=aB
 have hts:=hv.t
 unfold maxLen at hts
 simp only at hts
 cases hw:dS ⟨8,n,i,t,lo,hi⟩
 case false =>
  exact pV
 case true =>
  have HW:=hide hw
  have hn:=gT hw aB
  by_cases hc:n<(x0.length:Int)
  ·
   have RR:=hide (show inB (cv.mk x0 x1 x2 x3 x4 x5 x6 x7 x8 x9 x10 x11 x12) ⟨8,n,i,t,lo,hi⟩=true by unfold inB;rw[hw,if_neg (show ¬(ef 8≠0) by rw[xu];simp)];simp only[cv.ji,cv.cD,cv.gN];simp[hc])
   have dc:decide (n<(x0.length:Int))=true:=b7
   exact I5
  ·
   have RR:=hide (show inB (cv.mk x0 x1 x2 x3 x4 x5 x6 x7 x8 x9 x10 x11 x12) ⟨8,n,i,t,lo,hi⟩=false by unfold inB;rw[hw,if_neg (show ¬(ef 8≠0) by rw[xu];simp)];simp only[cv.ji,cv.cD,cv.gN];simp[hc])
   have dc:decide (n<(x0.length:Int))=false:=b7
   exact I5
theorem O5 (n i:Int) (t:ByteArray) (lo hi:Int) (s:cv):pU 27 s ⟨9,n,i,t,lo,hi⟩:=by
 intro S q w hs hv
 obtain⟨x0,x1,x2,x3,x4,x5,x6,x7,x8,x9,x10,x11,x12⟩:=s
 have jF:=hide hs
 obtain⟨A0,c0,A1,c1,A2,c2,A3,c3,A6,c6,A7,c7,A8,c8,hq,e0,e1,e2,e3,e4,e5,e6,e7,e8,e9,e10,e11,e12,gg,hcm0,ga,hcm1,fB,hcm2,fL,fV,fW,fZ,gh,gi,gb,gd,g4,g5,g10,g11,g12,-,-,-,-,-,-,-⟩:=cG.opn hs
 clear hs
 have gM:¬q=w.heap.size:=aB
 have hts:=hv.t
 unfold maxLen at hts
 simp only at hts
 cases hw:dS ⟨9,n,i,t,lo,hi⟩
 case false =>
  exact pV
 case true =>
  have HW:=hide hw
  have hn:=gT hw aB
  by_cases hc:n<=54
  ·
   have RR:=hide (show inB (cv.mk x0 x1 x2 x3 x4 x5 x6 x7 x8 x9 x10 x11 x12) ⟨9,n,i,t,lo,hi⟩=true by unfold inB;rw[hw,if_neg (show ¬(ef 9≠0) by rw[xv];simp)];simp only[cv.ji,cv.cD,cv.gN];simp[hc])
   have dc:decide (n<=54)=true:=b7
   exact I5
  ·
   have RR:=hide (show inB (cv.mk x0 x1 x2 x3 x4 x5 x6 x7 x8 x9 x10 x11 x12) ⟨9,n,i,t,lo,hi⟩=false by unfold inB;rw[hw,if_neg (show ¬(ef 9≠0) by rw[xv];simp)];simp only[cv.ji,cv.cD,cv.gN];simp[hc])
   have dc:decide (n<=54)=false:=b7
   exact I5
theorem Ky (n i:Int) (t:ByteArray) (lo hi:Int) (s:cv):pU 27 s ⟨10,n,i,t,lo,hi⟩:=by
 intro S q w hs hv
 obtain⟨x0,x1,x2,x3,x4,x5,x6,x7,x8,x9,x10,x11,x12⟩:=s
 have jF:=hide hs
 obtain⟨A0,c0,A1,c1,A2,c2,A3,c3,A6,c6,A7,c7,A8,c8,hq,e0,e1,e2,e3,e4,e5,e6,e7,e8,e9,e10,e11,e12,gg,hcm0,ga,hcm1,fB,hcm2,fL,fV,fW,fZ,gh,gi,gb,gd,g4,g5,g10,g11,g12,-,-,-,-,-,-,-⟩:=cG.opn hs
 clear hs
 have gM:¬q=w.heap.size:=aB
 have hts:=hv.t
 unfold maxLen at hts
 simp only at hts
 cases hw:dS ⟨10,n,i,t,lo,hi⟩
 case false =>
  exact pV
 case true =>
  have HW:=hide hw
  have hn:=gT hw aB
  by_cases hc:n<(x1.length:Int)
  ·
   have RR:=hide (show inB (cv.mk x0 x1 x2 x3 x4 x5 x6 x7 x8 x9 x10 x11 x12) ⟨10,n,i,t,lo,hi⟩=true by unfold inB;rw[hw,if_neg (show ¬(ef 10≠0) by rw[tu];simp)];simp only[cv.ji,cv.cD,cv.gN];simp[hc])
   have dc:decide (n<(x1.length:Int))=true:=b7
   exact I5
  ·
   have RR:=hide (show inB (cv.mk x0 x1 x2 x3 x4 x5 x6 x7 x8 x9 x10 x11 x12) ⟨10,n,i,t,lo,hi⟩=false by unfold inB;rw[hw,if_neg (show ¬(ef 10≠0) by rw[tu];simp)];simp only[cv.ji,cv.cD,cv.gN];simp[hc])
   have dc:decide (n<(x1.length:Int))=false:=b7
   exact I5
theorem Kz (n i:Int) (t:ByteArray) (lo hi:Int) (s:cv):pU 27 s ⟨14,n,i,t,lo,hi⟩:=by
 intro S q w hs hv
 obtain⟨x0,x1,x2,x3,x4,x5,x6,x7,x8,x9,x10,x11,x12⟩:=s
 have jF:=hide hs
 obtain⟨A0,c0,A1,c1,A2,c2,A3,c3,A6,c6,A7,c7,A8,c8,hq,e0,e1,e2,e3,e4,e5,e6,e7,e8,e9,e10,e11,e12,gg,hcm0,ga,hcm1,fB,hcm2,fL,fV,fW,fZ,gh,gi,gb,gd,g4,g5,g10,g11,g12,-,-,-,-,-,-,-⟩:=cG.opn hs
 clear hs
 have gM:¬q=w.heap.size:=aB
 have hts:=hv.t
 unfold maxLen at hts
 simp only at hts
 cases hw:dS ⟨14,n,i,t,lo,hi⟩
 case false =>
  exact pV
 case true =>
  have HW:=hide hw
  have hi0:=mP hw aB
  by_cases hc:i<(x3.length:Int)
  ·
   have RR:=hide (show inB (cv.mk x0 x1 x2 x3 x4 x5 x6 x7 x8 x9 x10 x11 x12) ⟨14,n,i,t,lo,hi⟩=true by unfold inB;rw[hw,if_neg (show ¬(ef 14≠0) by rw[tw];simp)];simp only[cv.ji,cv.cD,cv.gN];simp[hc])
   have dc:decide (i<(x3.length:Int))=true:=b7
   exact I5
  ·
   have RR:=hide (show inB (cv.mk x0 x1 x2 x3 x4 x5 x6 x7 x8 x9 x10 x11 x12) ⟨14,n,i,t,lo,hi⟩=false by unfold inB;rw[hw,if_neg (show ¬(ef 14≠0) by rw[tw];simp)];simp only[cv.ji,cv.cD,cv.gN];simp[hc])
   have dc:decide (i<(x3.length:Int))=false:=b7
   exact I5
theorem KA (n i:Int) (t:ByteArray) (lo hi:Int) (s:cv):pU 27 s ⟨18,n,i,t,lo,hi⟩:=by
 intro S q w hs hv
 obtain⟨x0,x1,x2,x3,x4,x5,x6,x7,x8,x9,x10,x11,x12⟩:=s
 have jF:=hide hs
 obtain⟨A0,c0,A1,c1,A2,c2,A3,c3,A6,c6,A7,c7,A8,c8,hq,e0,e1,e2,e3,e4,e5,e6,e7,e8,e9,e10,e11,e12,gg,hcm0,ga,hcm1,fB,hcm2,fL,fV,fW,fZ,gh,gi,gb,gd,g4,g5,g10,g11,g12,-,-,-,-,-,-,-⟩:=cG.opn hs
 clear hs
 have gM:¬q=w.heap.size:=aB
 have hts:=hv.t
 unfold maxLen at hts
 simp only at hts
 cases hw:dS ⟨18,n,i,t,lo,hi⟩
 case false =>
  exact pV
 case true =>
  have HW:=hide hw
  have RR:=hide (show inB (cv.mk x0 x1 x2 x3 x4 x5 x6 x7 x8 x9 x10 x11 x12) ⟨18,n,i,t,lo,hi⟩=true by unfold inB;rw[hw,if_neg (show ¬(ef 18≠0) by rw[Av];simp)];simp)
  exact I5
theorem Ay (k:Int) (h:k<0\/20<k) (n i:Int) (t:ByteArray) (lo hi:Int) (s:cv):pU 27 s ⟨k,n,i,t,lo,hi⟩:=by
 intro S q w hs hv
 obtain⟨x0,x1,x2,x3,x4,x5,x6,x7,x8,x9,x10,x11,x12⟩:=s
 have jF:=hide hs
 obtain⟨A0,c0,A1,c1,A2,c2,A3,c3,A6,c6,A7,c7,A8,c8,hq,e0,e1,e2,e3,e4,e5,e6,e7,e8,e9,e10,e11,e12,gg,hcm0,ga,hcm1,fB,hcm2,fL,fV,fW,fZ,gh,gi,gb,gd,g4,g5,g10,g11,g12,-,-,-,-,-,-,-⟩:=cG.opn hs
 clear hs
 have gM:¬q=w.heap.size:=aB
 have hts:=hv.t
 unfold maxLen at hts
 simp only at hts
 cases hw:dS ⟨k,n,i,t,lo,hi⟩
 case false =>
  exact pV
 case true =>
  exfalso
  exact WR
end Go.Proofs.YtjngkknbpfgdcaaGreatDoor
