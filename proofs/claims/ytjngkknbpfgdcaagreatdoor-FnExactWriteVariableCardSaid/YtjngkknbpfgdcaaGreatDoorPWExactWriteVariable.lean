import Derived.Test.YtjngkknbpfgdcaaGreatDoorPr
import Derived.Test.YtjngkknbpfgdcaaGreatDoorPWrC
import Derived.Test.YtjngkknbpfgdcaaGreatDoorPWrD
import Derived.Test.YtjngkknbpfgdcaaGreatDoorPR3
import Derived.Test.YtjngkknbpfgdcaaGreatDoorPK2b
import Derived.Test.YtjngkknbpfgdcaaGreatDoorPTV
import Derived.Test.YtjngkknbpfgdcaaGreatDoorPShelf
import Derived.Deep.RegionHeld3
set_option linter.unusedVariables false
set_option linter.unusedSimpArgs false
set_option maxRecDepth 100000
set_option maxHeartbeats 8000000
namespace Go.Proofs.YtjngkknbpfgdcaaGreatDoor
open Go.RowKit
structure ZZ (w0 w:World) (bA bR bV bW bG:Nat) (a0 a1 a2 a3 a4 a5 a6 a7 a8 a9 a10 a11 a12:Value) (k n i:Int) (t:ByteArray) (lo hi vk vn vi:Int) (vt:ByteArray) (vl vh:Int) (v0 v1 v2 v3 v4 v5 v6 v7 v8 v9 v10 v11 v12 u0 u1 u2 u3 u4 u5 u6 u7 u8 u9 u10 u11 u12:Value) (LW:List Nat) (D:List Dat):Prop where
 bel:cE w0 w
 pa:SB w bA a0 a1 a2 a3 a4 a5 a6 a7 a8 a9 a10 a11 a12
 pr:MS w bR k n i t lo hi
 pv:MS w bV vk vn vi vt vl vh
 sw:SB w bW v0 v1 v2 v3 v4 v5 v6 v7 v8 v9 v10 v11 v12
 sg:SB w bG u0 u1 u2 u3 u4 u5 u6 u7 u8 u9 u10 u11 u12
 ow:Dat.dB w LW D [v0,v1,v2,v3,v4,v5,v6,v7,v8,v9,v10,v11,v12]
section
variable {w0 w w':World} {bA bR bV bW bG:Nat} {a0 a1 a2 a3 a4 a5 a6 a7 a8 a9 a10 a11 a12 v0 v1 v2 v3 v4 v5 v6 v7 v8 v9 v10 v11 v12 u0 u1 u2 u3 u4 u5 u6 u7 u8 u9 u10 u11 u12:Value} {k n i lo hi vk vn vi vl vh:Int} {t vt:ByteArray} {LW:List Nat} {D:List Dat}
theorem ZZ.on (h:ZZ w0 w bA bR bV bW bG a0 a1 a2 a3 a4 a5 a6 a7 a8 a9 a10 a11 a12 k n i t lo hi vk vn vi vt vl vh v0 v1 v2 v3 v4 v5 v6 v7 v8 v9 v10 v11 v12 u0 u1 u2 u3 u4 u5 u6 u7 u8 u9 u10 u11 u12 LW D) (k':cE w w'):ZZ w0 w' bA bR bV bW bG a0 a1 a2 a3 a4 a5 a6 a7 a8 a9 a10 a11 a12 k n i t lo hi vk vn vi vt vl vh v0 v1 v2 v3 v4 v5 v6 v7 v8 v9 v10 v11 v12 u0 u1 u2 u3 u4 u5 u6 u7 u8 u9 u10 u11 u12 LW D:=⟨h.bel.trans k',h.pa.on k',h.pr.on k',h.pv.on k',h.sw.on k',h.sg.on k',h.ow.bel k'⟩
theorem ZZ.off {S:Nat->Prop} (h:ZZ w0 w bA bR bV bW bG a0 a1 a2 a3 a4 a5 a6 a7 a8 a9 a10 a11 a12 k n i t lo hi vk vn vi vt vl vh v0 v1 v2 v3 v4 v5 v6 v7 v8 v9 v10 v11 v12 u0 u1 u2 u3 u4 u5 u6 u7 u8 u9 u10 u11 u12 LW D) (k':dP S w w') (h0:∀x,x<w0.heap.size->S x) (hb:∀x,x=bA\/x=bR\/x=bV\/x=bW\/x=bG->S x) (hL:∀x,x∈LW->S x):ZZ w0 w' bA bR bV bW bG a0 a1 a2 a3 a4 a5 a6 a7 a8 a9 a10 a11 a12 k n i t lo hi vk vn vi vt vl vh v0 v1 v2 v3 v4 v5 v6 v7 v8 v9 v10 v11 v12 u0 u1 u2 u3 u4 u5 u6 u7 u8 u9 u10 u11 u12 LW D :=
 ⟨k'.Ap h.bel h0,h.pa.block k'.size (k'.block bA (hb _ aK) h.pa.1),h.pr.block k'.size (k'.block bR (hb _ aK) h.pr.1),h.pv.block k'.size (k'.block bV (hb _ aK) h.pv.1),h.sw.block k'.size (k'.block bW (hb _ aK) h.sw.1),h.sg.block k'.size (k'.block bG (hb _ aK) h.sg.1),h.ow.gL k' hL⟩
end
def D9 (N:Nat) (w:World) (v:Value) (t:cv) (c:Int) (F:Nat->Prop):Prop:=∃(us:List Value) (L:List Nat),v=.tuple #[.agg us.toArray,.int .i64 c]/\Dat.dB w L t.D us/\L.Nodup/\∀b,b∈L->N<=b/\¬F b
theorem D9.on {N:Nat} {w w':World} {v:Value} {t:cv} {c:Int} {F F':Nat->Prop} (h:D9 N w v t c F) (k:cE w w') (hF:∀b,F' b->F b\/w.heap.size<=b):D9 N w' v t c F':=by
 exact WM
theorem D9.off {N:Nat} {w w':World} {v:Value} {t:cv} {c:Int} {F:Nat->Prop} {S:Nat->Prop} (h:D9 N w v t c F) (k:dP S w w') (hF:∀b,¬F b->S b):D9 N w' v t c F:=by
 exact WN
theorem tD (k n i:Int) (t:ByteArray) (lo hi left:Int) (w:World) (h0:0<=left) (h1:left<=1048576) (ht:t.size<=maxLen) :
  Calls Tryz.prog 16 #[.agg #[.int .i64 k,.int .i64 n,.int .i64 i,.string t,.int .i64 lo,.int .i64 hi],.int .i64 left] w fun e w'=>e=.returned (.int .i64 (ML t left))/\cE w w':=Et ⟨k,n,i,t,lo,hi⟩ left w h0 h1 ht
theorem FnExactWriteVariable_walk0 (s0:cv) (TR:List Value) (r v:cV) (w:World) (hv0:Dat.cC w (fun _=>True) s0.D TR) (hr:r.Ok) (hx:v.Ok) (htab:Sp w) (F1:Se w) :
  Calls Tryz.prog 4 #[.agg TR.toArray,r.val,v.val] w fun e w'=>e=.returned (.bool true)/\cE w w':=by
 have HT:=hide htab
 have HP:=hide F1
 have HR:=hide hr
 have HX:=hide hx
 have hts:=hr.t
 have hvs:=hx.t
 unfold maxLen at hts hvs
 have HV:=hide hv0
 clear htab F1 hr hx
 obtain⟨x0,x1,x2,x3,x4,x5,x6,x7,x8,x9,x10,x11,x12⟩:=s0
 obtain⟨A0,c0,A1,c1,A2,c2,A3,c3,A6,c6,A7,c7,A8,c8,rfl,-⟩:=cv.vals hv0
 clear hv0
 obtain⟨k,n,i,t,lo,hi⟩:=r
 obtain⟨vk,vn,vi,vt,vl,vh⟩:=v
 simp only[cV.val]at hts hvs |-
 obtain⟨T,hT⟩:∃T,xY (cv.mk x0 x1 x2 x3 x4 x5 x6 x7 x8 x9 x10 x11 x12) ⟨k,n,i,t,lo,hi⟩ ⟨vk,vn,vi,vt,vl,vh⟩=T:=⟨_,rfl⟩
 have hrc:=OK (cv.mk x0 x1 x2 x3 x4 x5 x6 x7 x8 x9 x10 x11 x12) ⟨k,n,i,t,lo,hi⟩ ⟨vk,vn,vi,vt,vl,vh⟩
 rw[hT]at hrc
 obtain⟨cc,hcc⟩:∃q,BC (cv.mk x0 x1 x2 x3 x4 x5 x6 x7 x8 x9 x10 x11 x12) ⟨k,n,i,t,lo,hi⟩ ⟨vk,vn,vi,vt,vl,vh⟩=q:=⟨_,rfl⟩
 have HN:=hide hT
 have HC:=hide hcc
 clear hT hcc
 obtain⟨y0,y1,y2,y3,y4,y5,y6,y7,y8,y9,sB,sC,sM⟩:=T
 have ah3:=cv.Su (cv.mk x0 x1 x2 x3 x4 x5 x6 x7 x8 x9 x10 x11 x12)
 obtain⟨m0,hm0⟩:∃m:Nat,m=Dat.mg (cv.mk x0 x1 x2 x3 x4 x5 x6 x7 x8 x9 x10 x11 x12).D:=⟨_,rfl⟩
 obtain⟨m1,hm1⟩:∃m:Nat,m=t.size:=⟨_,rfl⟩
 obtain⟨m3,sK⟩:∃m:Nat,m=vt.size:=⟨_,rfl⟩
 have hoo:(cc != cc)=false:=aK
 have hc0:0<=(1048576:Int):=aB
 rcases Int.lt_or_le (1048576:Int) (m0:Int)with hq0 | hq0
 ·
  have HZ0:=hide (show Df (Dat.mg (cv.mk x0 x1 x2 x3 x4 x5 x6 x7 x8 x9 x10 x11 x12).D) (1048576:Int) = -1 from xQ aB)
  clear hq0 hm0 hm1 sK
  go_enter Tryz.func4,Tryz.ntmps4
  go_wp2_with (go_at_call 15;refine (qe _ _ _ _ _ (Dat.cC.bel bl HV.out) aB aB).mono ?_;rintro e w1 ⟨rfl,hb1⟩;rw[HZ0.out];(have hz1:=hb1.sz;obtain⟨eA,fb,fc,fA⟩:=hb1.lay (w.heap.size);obtain⟨ff,fE,fR,fS⟩:=hb1.lay (w.heap.size+1);obtain⟨iM,jx,ko,kp⟩:=hb1.lay (w.heap.size+1+1)))
  all_goals
   go_returns
   exact⟨rfl,bl⟩
 have HZ0:=hide (show Df (Dat.mg (cv.mk x0 x1 x2 x3 x4 x5 x6 x7 x8 x9 x10 x11 x12).D) (1048576:Int)=(1048576:Int) - (m0:Int)from by rw[tK aB,hm0])
 have hws:Dat.mg (cv.mk x0 x1 x2 x3 x4 x5 x6 x7 x8 x9 x10 x11 x12).D<=1048576:=aB
 have ZX:=hide hws
 have HL0:=hide (al (Dat.GR _) hws)
 have HCN:=hide (show (1:Int)+(cv.mE (cv.mk x0 x1 x2 x3 x4 x5 x6 x7 x8 x9 x10 x11 x12):Nat)<=4611686018427387904 by omega)
 have HCL:=hide (show (1:Int)+(cv.mE (cv.mk y0 y1 y2 y3 y4 y5 y6 y7 y8 y9 sB sC sM):Nat)<=4611686018427387904 by omega)
 obtain⟨q,hq⟩:∃q,cv.mE (cv.mk y0 y1 y2 y3 y4 y5 y6 y7 y8 y9 sB sC sM)=q:=⟨_,rfl⟩
 have HQ:=hide hq
 obtain⟨q0,aeQ⟩:∃q,cv.mE (cv.mk x0 x1 x2 x3 x4 x5 x6 x7 x8 x9 x10 x11 x12)=q:=⟨_,rfl⟩
 have JT:=hide aeQ
 clear aeQ hrc ah3 hq
 have dz0:decide ((1048576:Int) - (m0:Int)<0)=false:=aD
 obtain⟨mm,hmm⟩:∃x,(1048576:Int) - (m0:Int)=x:=⟨_,rfl⟩
 rw[hmm]at HZ0 dz0
 have amZ:0<=mm:=aB
 have am0:mm<=1048576:=aB
 clear hq0 hmm hws hc0
 rcases Int.lt_or_le mm (m1:Int)with hq1 | hq1
 ·
  have HZ1:=hide (show ML t mm = -1 from by unfold ML;rw[if_pos aB])
  clear hq1 hm0 hm1 sK
  go_enter Tryz.func4,Tryz.ntmps4
  go_wp2_with (first | (go_at_call 15;refine (qe _ _ _ _ _ (Dat.cC.bel bl HV.out) aB aB).mono ?_;rintro e w1 ⟨rfl,hb1⟩;rw[HZ0.out];(have hz1:=hb1.sz;obtain⟨eA,fb,fc,fA⟩:=hb1.lay (w.heap.size);obtain⟨ff,fE,fR,fS⟩:=hb1.lay (w.heap.size+1);obtain⟨iM,jx,ko,kp⟩:=hb1.lay (w.heap.size+1+1))) | (go_at_call 16;(with_reducible refine (tD k n i t lo hi mm _ aB aB HR.out.t).mono ?_);rintro e w2 ⟨rfl,hb2⟩;rw[HZ1.out];(have hz2:=hb2.sz;obtain⟨gO,lJ,mG,mH⟩:=hb2.lay (w.heap.size);obtain⟨iW,nT,sn,su⟩:=hb2.lay (w.heap.size+1);obtain⟨jW,uO,Aa,Ab⟩:=hb2.lay (w.heap.size+1+1))))
  all_goals
   go_returns
   exact⟨rfl,bl⟩
 obtain⟨m2,hm2⟩:∃x,mm - (m1:Int)=x:=⟨_,rfl⟩
 have HZ1:=hide (show ML t mm=m2 from by unfold ML;rw[if_neg aB];omega)
 have am1:0<=m2:=aB
 have am2:m2<=1048576:=aB
 have dz1:decide (m2<0)=false:=aD
 clear hq1 hm2 hm1 hm0
 rcases Int.lt_or_le m2 (m3:Int)with hq1 | hq1
 ·
  have HZ2:=hide (show ML vt m2 = -1 from by unfold ML;rw[if_pos aB])
  clear hq1 sK
  go_enter Tryz.func4,Tryz.ntmps4
  go_wp2_with (first | (go_at_call 15;refine (qe _ _ _ _ _ (Dat.cC.bel bl HV.out) aB aB).mono ?_;rintro e w1 ⟨rfl,hb1⟩;rw[HZ0.out];(have hz1:=hb1.sz;obtain⟨eA,fb,fc,fA⟩:=hb1.lay (w.heap.size);obtain⟨ff,fE,fR,fS⟩:=hb1.lay (w.heap.size+1);obtain⟨iM,jx,ko,kp⟩:=hb1.lay (w.heap.size+1+1))) | (go_at_call 16;(with_reducible refine (tD k n i t lo hi mm _ aB aB HR.out.t).mono ?_);rintro e w2 ⟨rfl,hb2⟩;rw[HZ1.out];(have hz2:=hb2.sz;obtain⟨gO,lJ,mG,mH⟩:=hb2.lay (w.heap.size);obtain⟨iW,nT,sn,su⟩:=hb2.lay (w.heap.size+1);obtain⟨jW,uO,Aa,Ab⟩:=hb2.lay (w.heap.size+1+1))) | (go_at_call 16;(with_reducible refine (tD vk vn vi vt vl vh m2 _ aB aB HX.out.t).mono ?_);rintro e w3 ⟨rfl,hb3⟩;rw[HZ2.out];(have hz3:=hb3.sz;obtain⟨jw,uK,zP,zQ⟩:=hb3.lay (w.heap.size);obtain⟨kq,yx,EH,EI⟩:=hb3.lay (w.heap.size+1);obtain⟨lj,Cp,IU,IV⟩:=hb3.lay (w.heap.size+1+1))))
  all_goals
   go_returns
   exact⟨rfl,bl⟩
 obtain⟨m4,hm4⟩:∃x,m2 - (m3:Int)=x:=⟨_,rfl⟩
 have HZ2:=hide (show ML vt m2=m4 from by unfold ML;rw[if_neg aB];omega)
 have dz2:decide (m4<0)=false:=aD
 clear hq1 hm4 sK
 go_enter Tryz.func4,Tryz.ntmps4
 go_upto_region 11 with (first | (go_at_call 15;refine (qe _ _ _ _ _ (Dat.cC.bel bl HV.out) aB aB).mono ?_;rintro e w1 ⟨rfl,hb1⟩;rw[HZ0.out];(have hz1:=hb1.sz;obtain⟨eA,fb,fc,fA⟩:=hb1.lay (w.heap.size);obtain⟨ff,fE,fR,fS⟩:=hb1.lay (w.heap.size+1);obtain⟨iM,jx,ko,kp⟩:=hb1.lay (w.heap.size+1+1))) | (go_at_call 16;(with_reducible refine (tD k n i t lo hi mm _ aB aB HR.out.t).mono ?_);rintro e w2 ⟨rfl,hb2⟩;rw[HZ1.out];(have hz2:=hb2.sz;obtain⟨gO,lJ,mG,mH⟩:=hb2.lay (w.heap.size);obtain⟨iW,nT,sn,su⟩:=hb2.lay (w.heap.size+1);obtain⟨jW,uO,Aa,Ab⟩:=hb2.lay (w.heap.size+1+1))) | (go_at_call 16;(with_reducible refine (tD vk vn vi vt vl vh m2 _ aB aB HX.out.t).mono ?_);rintro e w3 ⟨rfl,hb3⟩;rw[HZ2.out];(have hz3:=hb3.sz;obtain⟨jw,uK,zP,zQ⟩:=hb3.lay (w.heap.size);obtain⟨kq,yx,EH,EI⟩:=hb3.lay (w.heap.size+1);obtain⟨lj,Cp,IU,IV⟩:=hb3.lay (w.heap.size+1+1))))
 refine dO fun wr hwr=>?_
 have hbr:cE w wr:=by rw[<-hwr];exact bl
 have PA:=hide (show SB wr w.heap.size (.slice A0 x0.length c0) (.slice A1 x1.length c1) (.slice A2 x2.length c2) (.slice A3 x3.length c3) (.string x4) (.int .i64 x5) (.slice A6 x6.length c6) (.slice A7 x7.length c7) (.slice A8 x8.length c8) (.bool x9) (.int .i64 x10) (.int .i64 x11) (.int .i64 x12)from by rw[<-hwr];exact⟨by omega,fun o=>by simp[uK,lJ,fb,go_sem],by simp[jw,gO,eA,go_sem],by simp[jw,gO,eA,go_sem],by simp[jw,gO,eA,go_sem],by simp[jw,gO,eA,go_sem],by simp[jw,gO,eA,go_sem],by simp[jw,gO,eA,go_sem],by simp[jw,gO,eA,go_sem],by simp[jw,gO,eA,go_sem],by simp[jw,gO,eA,go_sem],by simp[jw,gO,eA,go_sem],by simp[jw,gO,eA,go_sem],by simp[jw,gO,eA,go_sem],by simp[jw,gO,eA,go_sem]⟩)
 have PR:=hide (show MS wr (w.heap.size+1) k n i t lo hi from by rw[<-hwr];exact⟨by omega,by simp[kq,iW,ff,go_sem],by simp[kq,iW,ff,go_sem],by simp[kq,iW,ff,go_sem],by simp[kq,iW,ff,go_sem],by simp[kq,iW,ff,go_sem],by simp[kq,iW,ff,go_sem]⟩)
 have PB:=hide (show MS wr (w.heap.size+1+1) vk vn vi vt vl vh from by rw[<-hwr];exact⟨by omega,by simp[lj,jW,iM,go_sem],by simp[lj,jW,iM,go_sem],by simp[lj,jW,iM,go_sem],by simp[lj,jW,iM,go_sem],by simp[lj,jW,iM,go_sem],by simp[lj,jW,iM,go_sem]⟩)
 clear hwr hb1 hb2 hb3 hz1 hz2 hz3 eA ff iM gO iW jW jw kq lj fb fE jx lJ nT uO uK yx Cp fc fR ko mG sn Aa zP EH IU fA fS kp mH su Ab zQ EI IV
 refine eP 12 (fun s u wq=>(cE wr wq)/\(s 0=true->(u 0)=.agg #[.slice A0 x0.length c0,.slice A1 x1.length c1,.slice A2 x2.length c2,.slice A3 x3.length c3,.string x4,.int .i64 x5,.slice A6 x6.length c6,.slice A7 x7.length c7,.slice A8 x8.length c8,.bool x9,.int .i64 x10,.int .i64 x11,.int .i64 x12])/\(s 1=true->s 6=false->OL wq (u 1) (cv.mk x0 x1 x2 x3 x4 x5 x6 x7 x8 x9 x10 x11 x12))/\(s 2=true->(u 2)=.agg #[.int .i64 k,.int .i64 n,.int .i64 i,.string t,.int .i64 lo,.int .i64 hi])/\(s 3=true->(u 3)=.agg #[.int .i64 k,.int .i64 n,.int .i64 i,.string t,.int .i64 lo,.int .i64 hi])/\(s 4=true->(u 4)=.agg #[.int .i64 vk,.int .i64 vn,.int .i64 vi,.string vt,.int .i64 vl,.int .i64 vh])/\(s 5=true->(u 5)=.agg #[.int .i64 vk,.int .i64 vn,.int .i64 vi,.string vt,.int .i64 vl,.int .i64 vh])/\(s 6=true->D9 wr.heap.size wq (u 6) (cv.mk y0 y1 y2 y3 y4 y5 y6 y7 y8 y9 sB sC sM) cc (fun b=>s 10=true/\PtrTo (u 10) b))/\(s 7=true->(u 7)=(u 6))/\(s 8=true->(u 6)=.tuple #[(u 8),.int .i64 cc])/\(s 9=true->(u 9)=.int .i64 cc)/\(s 10=true->s 11=false->DJ wr.heap.size wq (u 10))/\(s 11=true->xt wr.heap.size wq (u 10) (u 8))) [(0,some 34),(1,some 35),(2,some 36),(3,some 37),(4,some 38),(5,some 39),(6,some 40),(7,some 33),(8,some 41),(9,some 42),(10,some 8),(11,none),(12,some 9)] rfl aC aC ?hJ rfl ?hstep ?hlast
 case hJ=>exact fun u=>⟨bl,(fun h=>absurd h ai),(fun h=>absurd h ai),(fun h=>absurd h ai),(fun h=>absurd h ai),(fun h=>absurd h ai),(fun h=>absurd h ai),(fun h=>absurd h ai),(fun h=>absurd h ai),(fun h=>absurd h ai),(fun h=>absurd h ai),(fun h=>absurd h ai),(fun h=>absurd h ai)⟩
 case hstep =>
  simp only[iT,Act.put,aa,ab,ae,af,ag,ah]
  refine (cB (i:=0) (i2:=1) (o:=_) rfl ?s0 (cB (i:=1) (i2:=2) (o:=_) rfl ?s1 (cB (i:=2) (i2:=3) (o:=_) rfl ?s2 (cB (i:=3) (i2:=4) (o:=_) rfl ?s3 (cB (i:=4) (i2:=5) (o:=_) rfl ?s4 (cB (i:=5) (i2:=6) (o:=_) rfl ?s5 (cB (i:=6) (i2:=7) (o:=_) rfl ?s6 (cB (i:=7) (i2:=8) (o:=_) rfl ?s7 (cB (i:=8) (i2:=9) (o:=_) rfl ?s8 (cB (i:=9) (i2:=10) (o:=_) rfl ?s9 (cB (i:=10) (i2:=11) (o:=_) rfl ?s10 (cB (i:=11) (i2:=12) (o:=_) rfl ?s11 (gD aF)))))))))))))
  case s0 =>
   intro u wa s hs ha cl hJ K hK
   obtain⟨jB,il,lW,iJ,im,dC,iq,eC,cQ,ik,iu,iw,iR⟩:=hJ
   simp only[Act.put,aa,ab,ae,af,ag,ah]at hK |-
   obtain⟨hlq,rB,j7,j8,j9,ka,kb,kf,kh,ki,kj,kk,ib,ic,ig⟩:=PA.out.on jB
   exact XO
  case s1 =>
   intro u wa s hs ha cl hJ K hK
   obtain⟨jB,il,lW,iJ,im,dC,iq,eC,cQ,ik,iu,iw,iR⟩:=hJ
   have Qz:=il (ha 0 aC)
   simp only[Act.put,aa,ab,ae,af,ag,ah]at hK |-
   rw[Qz]at hK |-
   go_simp
   go_at_call 17
   refine (tC _ _ _ _ (Dat.cC.bel (cE.trans hbr jB) HV.out) ZX.out).mono ?_
   exact XP
  case s2 =>
   intro u wa s hs ha cl hJ K hK
   obtain⟨jB,il,lW,iJ,im,dC,iq,eC,cQ,ik,iu,iw,iR⟩:=hJ
   simp only[Act.put,aa,ab,ae,af,ag,ah]at hK |-
   obtain⟨hlv,q0,q1,q2,q3,q4,q5⟩:=PR.out.on jB
   exact XQ
  case s3 =>
   exact XR
  case s4 =>
   intro u wa s hs ha cl hJ K hK
   obtain⟨jB,il,lW,iJ,im,dC,iq,eC,cQ,ik,iu,iw,iR⟩:=hJ
   simp only[Act.put,aa,ab,ae,af,ag,ah]at hK |-
   obtain⟨hlv,q0,q1,q2,q3,q4,q5⟩:=PB.out.on jB
   exact XS
  case s5 =>
   exact XT
  case s6 =>
   intro u wa s hs ha cl hJ K hK
   obtain⟨jB,il,lW,iJ,im,dC,iq,eC,cQ,ik,iu,iw,iR⟩:=hJ
   obtain⟨vs5,Z0,hv5⟩:=lW (ha 1 aC) hs
   have QA:=im (ha 3 aC)
   have QB:=iq (ha 5 aC)
   simp only[Act.put,aa,ab,ae,af,ag,ah]at hK |-
   rw[QA]at hK |-
   rw[QB]at hK |-
   rw[Z0]at hK |-
   go_simp
   go_at_call 8
   refine (H6 (cv.mk x0 x1 x2 x3 x4 x5 x6 x7 x8 x9 x10 x11 x12) ⟨k,n,i,t,lo,hi⟩ ⟨vk,vn,vi,vt,vl,vh⟩ _ _ _ (HT.out.on (cE.trans hbr jB)) (HP.out.on (cE.trans hbr jB)) hv5 HR.out HX.out HL0.out).mono ?_
   exact XU
  case s7 =>
   exact XV
  case s8 =>
   exact XW
  case s9 =>
   exact XX
  case s10 =>
   exact XY
  case s11 =>
   intro u wa s hs ha cl hJ K hK
   obtain⟨jB,il,lW,iJ,im,dC,iq,eC,cQ,ik,iu,iw,iR⟩:=hJ
   simp only[Act.put,aa,ab,ae,af,ag,ah]at hK |-
   obtain⟨g,eg,hgN,hgz⟩:=iw (ha 10 aC) hs
   obtain⟨us,L,jo,hO,hN,hL⟩:=eC (ha 6 aC)
   have uF:u 8=.agg us.toArray:=by have h:=(ik (ha 8 aC)).symm.trans jo;simpa using h
   have eg2:u 10=.pointer (some ⟨g,0,none⟩):=eg
   rw[uF,eg2]at hK |-
   have hlen:us.length=13:=(Dat.dB.vals (S:=fun _=>True) (fun _ _=>trivial) hO).length
   have hth:=hgz.there
   rw[<-hlen]at hth
   refine wp_store_mid 30 (.tmp 8) (.tmp 41) rfl g 0 us.toArray rfl rfl (by rw[List.size_toArray];exact hth) cp (all_oneCell_toArray hO.oneCell) ?_
   exact XZ
 case hlast =>
  simp only[iT,Act.put,aa,ab,ae,af,ag,ah]
  intro u wa hJ K hK
  obtain⟨s,ha,jB,il,lW,iJ,im,dC,iq,eC,cQ,ik,iu,iw,iR⟩:=hJ
  have F2:=iu (ha 9 aF)
  obtain⟨us,LW,jo,hOW,hNW,hLW⟩:=eC (ha 6 aF)
  have uF:u 8=.agg us.toArray:=by have h:=(ik (ha 8 aF)).symm.trans jo;simpa using h
  have hS:=iR (ha 11 aF)
  rw[uF]at hS
  obtain⟨WA0,Wc0,-,WA1,Wc1,-,WA2,Wc2,-,WA3,Wc3,-,WA6,Wc6,-,WA7,Wc7,-,WA8,Wc8,-,-,rfl,-⟩:=cv.gV hOW
  obtain⟨bW,-,eW,hWN,-⟩:=id hS
  have SW:=hS.sb eW
  have aeS:=hide (show ∀b,b∈LW->wr.heap.size<=b/\b<wa.heap.size/\b≠bW from fun b hb=>⟨(hLW b hb).1,hOW.lt _ _ _ b hb,fun q=>(hLW b hb).2 ⟨(ha 10 aF),q▸eW⟩⟩)
  have X0:u 10=.pointer (some ⟨bW,0,none⟩):=eW
  rw[F2,X0]at hK |-
  have HOW:=hide hOW
  have HNW:=hide hNW
  have QD:=jB
  clear il lW iJ im dC iq eC cQ ik iu iw iR hS eW X0 jo uF F2 hLW hOW hNW ha
  go_simp
  refine hK.out _ _ ?_
  clear hK K
  obtain⟨wB,rfl⟩:∃x,x=wa:=⟨_,rfl⟩
  have Z1:=hbr.trans QD
  have hwr:=hbr.size
  have PA2:=hide (PA.out.on QD)
  have PR2:=hide (PR.out.on QD)
  have PB2:=hide (PB.out.on QD)
  have SW2:=hide SW
  have hlA:=PA.out.1
  have hlR:=PR.out.1
  have hlB:=PB.out.1
  have hlW:=SW.1
  have HLW:=hide (show ∀b,b∈LW->wr.heap.size<=b/\b<wB.heap.size/\b≠bW from aeS.out)
  clear aeS PA PR PB SW
  have pb:=PA2.out
  obtain⟨hlA,hfA,Lr,Ls,Lt,Lu,Lv,Lw,Lx,Ly,Lz,LA,CC,CD,CE⟩:=pb
  go_upto_region 13 with (go_at_call 17;refine (DE _ _ _ _ (Dat.cC.bel (cE.trans Z1 bl) HV.out) ZX.out).mono ?_;rintro e w4 ⟨vs4,LX,rfl,hv4,hn4,hl4,hb4⟩;obtain⟨XA0,Xc0,-,XA1,Xc1,-,XA2,Xc2,-,XA3,Xc3,-,XA6,Xc6,-,XA7,Xc7,-,XA8,Xc8,-,-,rfl,-⟩:=cv.gV hv4;have Xc:=hide hv4;have HNX:=hide hn4;have aeT:=hide hl4;clear hv4 hn4 hl4)
  refine dO fun wC hwC=>?_
  have hbC:cE w4 wC:=by rw[<-hwC];exact bl
  have BX:=hide (show SB wC w4.heap.size (.slice XA0 x0.length Xc0) (.slice XA1 x1.length Xc1) (.slice XA2 x2.length Xc2) (.slice XA3 x3.length Xc3) (.string x4) (.int .i64 x5) (.slice XA6 x6.length Xc6) (.slice XA7 x7.length Xc7) (.slice XA8 x8.length Xc8) (.bool x9) (.int .i64 x10) (.int .i64 x11) (.int .i64 x12)from by rw[<-hwC];exact SB.new _ _)
  have hzC:wC.heap.size=w4.heap.size+1:=by rw[<-hwC];simp
  clear hwC
  have hs4:=hb4.size
  have HLX:=hide (show ∀x,x∈LX->wB.heap.size<=x/\x<w4.heap.size from fun x hx=>⟨aeT.out x hx,Dat.dB.lt _ _ _ Xc.out x hx⟩)
  have H7:=cE.trans hb4 hbC
  have oz:=hide (Xc.out.bel hbC)
  have HXH:=hide (Dat.dB.vals (S:=fun _=>True) (fun _ _=>trivial) oz.out)
  have PC:=hide (PA2.out.on H7)
  have RC:=hide (PR2.out.on H7)
  have QC:=hide (PB2.out.on H7)
  have SC:=hide (SW2.out.on H7)
  have OC:=hide (HOW.out.bel H7)
  have Tz:=cE.trans Z1 H7
  clear hlA hfA Lr Ls Lt Lu Lv Lw Lx Ly Lz LA CC CD CE
  have hXb:wB.heap.size<=w4.heap.size:=hs4
  have hXc:w4.heap.size<wC.heap.size:=aB
  clear Xc aeT PA2 PR2 PB2 SW2 HOW hb4 hbC hs4 H7 Z1 hzC
  generalize w4.heap.size=bX at BX HLX hXb hXc |-
  clear w4
  refine eP 11 (fun s u wq=>(cE wC wq)/\(s 0=true->(u 0)=.agg #[.slice XA0 x0.length Xc0,.slice XA1 x1.length Xc1,.slice XA2 x2.length Xc2,.slice XA3 x3.length Xc3,.string x4,.int .i64 x5,.slice XA6 x6.length Xc6,.slice XA7 x7.length Xc7,.slice XA8 x8.length Xc8,.bool x9,.int .i64 x10,.int .i64 x11,.int .i64 x12])/\(s 1=true->(u 1)=.agg #[.int .i64 k,.int .i64 n,.int .i64 i,.string t,.int .i64 lo,.int .i64 hi])/\(s 2=true->(u 2)=.agg #[.int .i64 k,.int .i64 n,.int .i64 i,.string t,.int .i64 lo,.int .i64 hi])/\(s 3=true->(u 3)=.agg #[.int .i64 vk,.int .i64 vn,.int .i64 vi,.string vt,.int .i64 vl,.int .i64 vh])/\(s 4=true->(u 4)=.agg #[.int .i64 vk,.int .i64 vn,.int .i64 vi,.string vt,.int .i64 vl,.int .i64 vh])/\(s 5=true->D9 wC.heap.size wq (u 5) (cv.mk y0 y1 y2 y3 y4 y5 y6 y7 y8 y9 sB sC sM) cc (fun b=>s 9=true/\PtrTo (u 9) b))/\(s 6=true->(u 6)=(u 5))/\(s 7=true->(u 5)=.tuple #[(u 7),.int .i64 cc])/\(s 8=true->(u 8)=.int .i64 cc)/\(s 9=true->s 10=false->DJ wC.heap.size wq (u 9))/\(s 10=true->xt wC.heap.size wq (u 9) (u 7))) [(0,some 46),(1,some 47),(2,some 48),(3,some 49),(4,some 50),(5,some 51),(6,some 45),(7,some 52),(8,some 53),(9,some 11),(10,none),(11,some 12)] rfl aC aC ?hJ rfl ?hstep ?hlast
  case hJ=>exact fun u=>⟨bl,(fun h=>absurd h ai),(fun h=>absurd h ai),(fun h=>absurd h ai),(fun h=>absurd h ai),(fun h=>absurd h ai),(fun h=>absurd h ai),(fun h=>absurd h ai),(fun h=>absurd h ai),(fun h=>absurd h ai),(fun h=>absurd h ai),(fun h=>absurd h ai)⟩
  case hstep =>
   simp only[iT,Act.put,aa,ab,ae,af,ag,ah]
   refine (cB (i:=0) (i2:=1) (o:=_) rfl ?s0 (cB (i:=1) (i2:=2) (o:=_) rfl ?s1 (cB (i:=2) (i2:=3) (o:=_) rfl ?s2 (cB (i:=3) (i2:=4) (o:=_) rfl ?s3 (cB (i:=4) (i2:=5) (o:=_) rfl ?s4 (cB (i:=5) (i2:=6) (o:=_) rfl ?s5 (cB (i:=6) (i2:=7) (o:=_) rfl ?s6 (cB (i:=7) (i2:=8) (o:=_) rfl ?s7 (cB (i:=8) (i2:=9) (o:=_) rfl ?s8 (cB (i:=9) (i2:=10) (o:=_) rfl ?s9 (cB (i:=10) (i2:=11) (o:=_) rfl ?s10 (gD aF))))))))))))
   case s0 =>
    intro u wa s hs ha cl hJ K hK
    obtain⟨jB,il,iJ,im,dC,iq,eC,cQ,ik,iu,iw,iR⟩:=hJ
    simp only[Act.put,aa,ab,ae,af,ag,ah]at hK |-
    obtain⟨hlq,rB,j7,j8,j9,ka,kb,kf,kh,ki,kj,kk,ib,ic,ig⟩:=BX.out.on jB
    go_simp
    exact hK.out _ _ ⟨jB,fun _=>rfl,iJ,im,dC,iq,eC,cQ,ik,iu,iw,iR⟩
   case s1 =>
    intro u wa s hs ha cl hJ K hK
    obtain⟨jB,il,iJ,im,dC,iq,eC,cQ,ik,iu,iw,iR⟩:=hJ
    simp only[Act.put,aa,ab,ae,af,ag,ah]at hK |-
    obtain⟨hlv,q0,q1,q2,q3,q4,q5⟩:=RC.out.on jB
    go_simp
    exact hK.out _ _ ⟨jB,il,fun _=>rfl,im,dC,iq,eC,cQ,ik,iu,iw,iR⟩
   case s2 =>
    intro u wa s hs ha cl hJ K hK
    obtain⟨jB,il,iJ,im,dC,iq,eC,cQ,ik,iu,iw,iR⟩:=hJ
    have Z2:=iJ (ha 1 aC)
    simp only[Act.put,aa,ab,ae,af,ag,ah]at hK |-
    rw[Z2]at hK |-
    go_simp
    go_at_call 18
    refine (pY ⟨k,n,i,t,lo,hi⟩ _).mono ?_
    rintro e w5 ⟨rfl,hb5⟩
    exact hK.out _ _ ⟨jB.trans hb5,il,iJ,fun _=>rfl,dC,iq,fun h=>(eC h).on hb5 (fun b hb=>Or.inl hb),cQ,ik,iu,fun h1 h2=>(iw h1 h2).on hb5,fun h=>(iR h).on hb5⟩
   case s3 =>
    intro u wa s hs ha cl hJ K hK
    obtain⟨jB,il,iJ,im,dC,iq,eC,cQ,ik,iu,iw,iR⟩:=hJ
    simp only[Act.put,aa,ab,ae,af,ag,ah]at hK |-
    obtain⟨hlv,q0,q1,q2,q3,q4,q5⟩:=QC.out.on jB
    go_simp
    exact hK.out _ _ ⟨jB,il,iJ,im,fun _=>rfl,iq,eC,cQ,ik,iu,iw,iR⟩
   case s4 =>
    intro u wa s hs ha cl hJ K hK
    obtain⟨jB,il,iJ,im,dC,iq,eC,cQ,ik,iu,iw,iR⟩:=hJ
    have mZ:=dC (ha 3 aC)
    simp only[Act.put,aa,ab,ae,af,ag,ah]at hK |-
    rw[mZ]at hK |-
    go_simp
    go_at_call 18
    refine (pY ⟨vk,vn,vi,vt,vl,vh⟩ _).mono ?_
    rintro e w5 ⟨rfl,hb5⟩
    exact hK.out _ _ ⟨jB.trans hb5,il,iJ,im,dC,fun _=>rfl,fun h=>(eC h).on hb5 (fun b hb=>Or.inl hb),cQ,ik,iu,fun h1 h2=>(iw h1 h2).on hb5,fun h=>(iR h).on hb5⟩
   case s5 =>
    intro u wa s hs ha cl hJ K hK
    obtain⟨jB,il,iJ,im,dC,iq,eC,cQ,ik,iu,iw,iR⟩:=hJ
    have Qz:=il (ha 0 aC)
    have QA:=im (ha 2 aC)
    have QB:=iq (ha 4 aC)
    simp only[Act.put,aa,ab,ae,af,ag,ah]at hK |-
    rw[Qz]at hK |-
    rw[QA]at hK |-
    rw[QB]at hK |-
    go_simp
    go_at_call 7
    refine (Be (cv.mk x0 x1 x2 x3 x4 x5 x6 x7 x8 x9 x10 x11 x12) ⟨k,n,i,t,lo,hi⟩ ⟨vk,vn,vi,vt,vl,vh⟩ _ _ _ (HT.out.on (cE.trans Tz jB)) (HP.out.on (cE.trans Tz jB)) (Dat.cC.bel jB HXH.out) HR.out HX.out HL0.out).mono ?_
    rintro e w5 ⟨us5,L5,rfl,Oi,hN5,hL5,hb5⟩
    rw[HC.out]
    rw[HN.out]at Oi
    have hz:=jB.size
    refine hK.out _ _ ⟨jB.trans hb5,il,iJ,im,dC,iq,fun _=>⟨us5,L5,rfl,Oi,hN5,fun b hb=>⟨by have:=hL5 b hb;omega,?_⟩⟩,(fun h=>absurd (cl 6 h 5 aC) aZ),(fun h=>absurd (cl 6 (cl 7 h 6 aC) 5 aC) aZ),iu,fun h1 h2=>(iw h1 h2).on hb5,fun h=>(iR h).on hb5⟩
    rintro⟨h1,h2⟩
    have hlow:=hL5 b hb
    cases hq:s 10
    ·
     obtain⟨g,e,-,hg⟩:=iw h1 hq
     have:=hg.1
     have:=e.inj h2
     omega
    ·
     obtain⟨g,us,e,-,-,hg,-⟩:=iR hq
     have:=e.inj h2
     omega
   case s6 =>
    intro u wa s hs ha cl hJ K hK
    obtain⟨jB,il,iJ,im,dC,iq,eC,cQ,ik,iu,iw,iR⟩:=hJ
    simp only[Act.put,aa,ab,ae,af,ag,ah]at hK |-
    go_simp
    exact hK.out _ _ ⟨jB,il,iJ,im,dC,iq,eC,fun _=>rfl,ik,iu,iw,iR⟩
   case s7 =>
    intro u wa s hs ha cl hJ K hK
    obtain⟨jB,il,iJ,im,dC,iq,eC,cQ,ik,iu,iw,iR⟩:=hJ
    simp only[Act.put,aa,ab,ae,af,ag,ah]at hK |-
    obtain⟨us,L,jo,hO,hN,hL⟩:=eC (ha 5 aC)
    have nm:=cQ (ha 6 aC)
    rw[nm,jo]at hK |-
    go_simp
    exact hK.out _ _ ⟨jB,il,iJ,im,dC,iq,eC,cQ,fun _=>jo,iu,iw,(fun h=>absurd (cl 10 h 7 aC) aZ)⟩
   case s8 =>
    intro u wa s hs ha cl hJ K hK
    obtain⟨jB,il,iJ,im,dC,iq,eC,cQ,ik,iu,iw,iR⟩:=hJ
    simp only[Act.put,aa,ab,ae,af,ag,ah]at hK |-
    obtain⟨us,L,jo,hO,hN,hL⟩:=eC (ha 5 aC)
    have nm:=cQ (ha 6 aC)
    rw[nm,jo]at hK |-
    go_simp
    exact hK.out _ _ ⟨jB,il,iJ,im,dC,iq,eC,cQ,ik,fun _=>rfl,iw,iR⟩
   case s9 =>
    intro u wa s hs ha cl hJ K hK
    obtain⟨jB,il,iJ,im,dC,iq,eC,cQ,ik,iu,iw,iR⟩:=hJ
    simp only[Act.put,aa,ab,ae,af,ag,ah]at hK |-
    have hz:=jB.size
    have hbx:cE wa (wa.alloc (.cells #[.slice none 0 0,.slice none 0 0,.slice none 0 0,.slice none 0 0,.string ByteArray.empty,.int .i64 0,.slice none 0 0,.slice none 0 0,.slice none 0 0,.bool false,.int .i64 0,.int .i64 0,.int .i64 0] 30)):=bl
    go_simp
    have hsS:s 10=false:=by
     exact X1
    exact hK.out _ _ ⟨jB.trans hbx,il,iJ,im,dC,iq,fun h=>(eC h).on hbx (fun b hb=>Or.inr (Nat.le_of_eq (PtrTo.inj (v:=.pointer (some ⟨wa.heap.size,0,none⟩)) rfl hb.2))),cQ,ik,iu,fun _ _=>⟨wa.heap.size,rfl,hz,SB.new _ _⟩,fun h=>absurd (hsS.symm.trans h) ai⟩
   case s10 =>
    intro u wa s hs ha cl hJ K hK
    obtain⟨jB,il,iJ,im,dC,iq,eC,cQ,ik,iu,iw,iR⟩:=hJ
    simp only[Act.put,aa,ab,ae,af,ag,ah]at hK |-
    obtain⟨g,eg,hgN,hgz⟩:=iw (ha 9 aC) hs
    obtain⟨us,L,jo,hO,hN,hL⟩:=eC (ha 5 aC)
    have uF:u 7=.agg us.toArray:=by have h:=(ik (ha 7 aC)).symm.trans jo;simpa using h
    have eg2:u 9=.pointer (some ⟨g,0,none⟩):=eg
    rw[uF,eg2]at hK |-
    have hlen:us.length=13:=(Dat.dB.vals (S:=fun _=>True) (fun _ _=>trivial) hO).length
    have hth:=hgz.there
    rw[<-hlen]at hth
    refine wp_store_mid 30 (.tmp 11) (.tmp 52) rfl g 0 us.toArray rfl rfl (by rw[List.size_toArray];exact hth) cp (all_oneCell_toArray hO.oneCell) ?_
    have hof:=oD (w:=wa) (b:=g) us
    exact hK.out undef _ ⟨cE.setCells hgN us 0 wa jB,il,iJ,im,dC,iq,fun h=>(eC h).off hof (fun b hf q=>hf ⟨(ha 9 aC),q▸eg⟩),cQ,ik,iu,fun _ h=>absurd (show true=false from h) aF,fun _=>(by show xt _ _ (u 9) (u 7);rw[uF];exact DJ.fill eg hgN hgz hlen)⟩
  case hlast =>
   simp only[iT,Act.put,aa,ab,ae,af,ag,ah]
   intro u wa hJ K hK
   obtain⟨s,ha,jB,il,iJ,im,dC,iq,eC,cQ,ik,iu,iw,iR⟩:=hJ
   have F2:=iu (ha 8 aF)
   obtain⟨us,LG,jo,hOG,hNG,hLG⟩:=eC (ha 5 aF)
   have uF:u 7=.agg us.toArray:=by have h:=(ik (ha 7 aF)).symm.trans jo;simpa using h
   have hS:=iR (ha 10 aF)
   rw[uF]at hS
   obtain⟨GA0,Gc0,-,GA1,Gc1,-,GA2,Gc2,-,GA3,Gc3,-,GA6,Gc6,-,GA7,Gc7,-,GA8,Gc8,-,-,rfl,-⟩:=cv.gV hOG
   obtain⟨bG,-,eW,hWN,-⟩:=id hS
   have SG:=hS.sb eW
   have aeV:=hide (show ∀b,b∈LG->wC.heap.size<=b/\b<wa.heap.size/\b≠bG from fun b hb=>⟨(hLG b hb).1,hOG.lt _ _ _ b hb,fun q=>(hLG b hb).2 ⟨(ha 9 aF),q▸eW⟩⟩)
   have X0:u 9=.pointer (some ⟨bG,0,none⟩):=eW
   rw[F2,X0]at hK |-
   have HOG:=hide hOG
   have HNG:=hide hNG
   have aeW:=jB
   clear il iJ im dC iq eC cQ ik iu iw iR hS eW X0 jo uF F2 hLG hOG hNG ha
   go_simp
   refine hK.out _ _ ?_
   clear hK K
   obtain⟨wD,rfl⟩:∃x,x=wa:=⟨_,rfl⟩
   have Ca:=aeW
   have HXD:=hide (oz.out.bel Ca)
   have BXD:=hide (BX.out.on Ca)
   have HGD:=hide HOG.out
   have TB:=SG.1
   have HLG:=hide (show ∀b,b∈LG->wC.heap.size<=b/\b<wD.heap.size/\b≠bG from aeV.out)
   have NF:=hide (show ZZ w wD w.heap.size (w.heap.size+1) (w.heap.size+1+1) bW bG (.slice A0 x0.length c0) (.slice A1 x1.length c1) (.slice A2 x2.length c2) (.slice A3 x3.length c3) (.string x4) (.int .i64 x5) (.slice A6 x6.length c6) (.slice A7 x7.length c7) (.slice A8 x8.length c8) (.bool x9) (.int .i64 x10) (.int .i64 x11) (.int .i64 x12) k n i t lo hi vk vn vi vt vl vh (.slice WA0 y0.length Wc0) (.slice WA1 y1.length Wc1) (.slice WA2 y2.length Wc2) (.slice WA3 y3.length Wc3) (.string y4) (.int .i64 y5) (.slice WA6 y6.length Wc6) (.slice WA7 y7.length Wc7) (.slice WA8 y8.length Wc8) (.bool y9) (.int .i64 sB) (.int .i64 sC) (.int .i64 sM) (.slice GA0 y0.length Gc0) (.slice GA1 y1.length Gc1) (.slice GA2 y2.length Gc2) (.slice GA3 y3.length Gc3) (.string y4) (.int .i64 y5) (.slice GA6 y6.length Gc6) (.slice GA7 y7.length Gc7) (.slice GA8 y8.length Gc8) (.bool y9) (.int .i64 sB) (.int .i64 sC) (.int .i64 sM) LW (cv.mk y0 y1 y2 y3 y4 y5 y6 y7 y8 y9 sB sC sM).D from⟨cE.trans Tz Ca,PC.out.on Ca,RC.out.on Ca,QC.out.on Ca,SC.out.on Ca,SG,OC.out.bel Ca⟩)
   have hGb:wC.heap.size<=wD.heap.size:=Ca.size
   clear HOG aeV oz HXH BX PC RC QC SC OC SG Ca Tz aeW QD
   have pb:=NF.out.sg
   obtain⟨TB,X2,F3,F4,F5,F6,F7,F8,F9,Ga,Gb,Gc,yN,yO,yP⟩:=pb
   have pb:=NF.out.sw
   obtain⟨hlW,hfW,QE,QF,QG,QH,QI,QK,QL,QM,QN,QO,Gd,Ge,Gf⟩:=pb
   go_upto_region 16 with (go_at_call 19;refine (qf (cv.mk y0 y1 y2 y3 y4 y5 y6 y7 y8 y9 sB sC sM) (fun _=>True) (fun _=>True) _ _ _ (Dat.dB.vals (S:=fun _=>True) (fun _ _=>trivial) HGD.out) (Dat.dB.vals (S:=fun _=>True) (fun _ _=>trivial) NF.out.ow)).mono ?_;rintro e w6 ⟨rfl,hb6⟩)
   clear TB X2 F3 F4 F5 F6 F7 F8 F9 Ga Gb Gc yN yO yP
   clear hlW hfW QE QF QG QH QI QK QL QM QN QO Gd Ge Gf
   refine dO fun wE hwE=>?_
   have LB:cE wD wE:=by rw[<-hwE];exact bl
   clear hwE
   clear hb6
   have NE:=hide (NF.out.on LB)
   have HXE:=hide (HXD.out.bel LB)
   have BXE:=hide (BXD.out.on LB)
   have HGE:=hide (HGD.out.bel LB)
   have hzE:=LB.size
   clear NF HXD BXD HGD LB
   have pb:=NE.out.pa
   obtain⟨hlA,hfA,Lr,Ls,Lt,Lu,Lv,Lw,Lx,Ly,Lz,LA,CC,CD,CE⟩:=pb
   have pb:=BXE.out
   obtain⟨xL,hfX,LC,LD,LK,LL,LM,LN,LO,LP,LQ,LR,CF,CG,CH⟩:=pb
   refine wp_region_held_drew (S:=fun w'=>w'.cell? ⟨w.heap.size,0,none⟩=some (.slice A0 x0.length c0)/\w'.cell? ⟨w.heap.size,1,none⟩=some (.slice A1 x1.length c1)/\w'.cell? ⟨w.heap.size,2,none⟩=some (.slice A2 x2.length c2)/\w'.cell? ⟨w.heap.size,3,none⟩=some (.slice A3 x3.length c3)/\w'.cell? ⟨w.heap.size,4,none⟩=some (.string x4)/\w'.cell? ⟨w.heap.size,5,none⟩=some (.int .i64 x5)/\w'.cell? ⟨w.heap.size,6,none⟩=some (.slice A6 x6.length c6)/\w'.cell? ⟨w.heap.size,7,none⟩=some (.slice A7 x7.length c7)/\w'.cell? ⟨w.heap.size,8,none⟩=some (.slice A8 x8.length c8)/\w'.cell? ⟨w.heap.size,9,none⟩=some (.bool x9)/\w'.cell? ⟨w.heap.size,10,none⟩=some (.int .i64 x10)/\w'.cell? ⟨w.heap.size,11,none⟩=some (.int .i64 x11)/\w'.cell? ⟨w.heap.size,12,none⟩=some (.int .i64 x12)/\w'.cell? ⟨bX,0,none⟩=some (.slice XA0 x0.length Xc0)/\w'.cell? ⟨bX,1,none⟩=some (.slice XA1 x1.length Xc1)/\w'.cell? ⟨bX,2,none⟩=some (.slice XA2 x2.length Xc2)/\w'.cell? ⟨bX,3,none⟩=some (.slice XA3 x3.length Xc3)/\w'.cell? ⟨bX,4,none⟩=some (.string x4)/\w'.cell? ⟨bX,5,none⟩=some (.int .i64 x5)/\w'.cell? ⟨bX,6,none⟩=some (.slice XA6 x6.length Xc6)/\w'.cell? ⟨bX,7,none⟩=some (.slice XA7 x7.length Xc7)/\w'.cell? ⟨bX,8,none⟩=some (.slice XA8 x8.length Xc8)/\w'.cell? ⟨bX,9,none⟩=some (.bool x9)/\w'.cell? ⟨bX,10,none⟩=some (.int .i64 x10)/\w'.cell? ⟨bX,11,none⟩=some (.int .i64 x11)/\w'.cell? ⟨bX,12,none⟩=some (.int .i64 x12)) aC ?_ (fun hHeld=>?_)
   ·
    exact⟨Lr,Ls,Lt,Lu,Lv,Lw,Lx,Ly,Lz,LA,CC,CD,CE,LC,LD,LK,LL,LM,LN,LO,LP,LQ,LR,CF,CG,CH⟩
   refine eH 0 ?_
   refine eH 1 ?_
   refine wpAnyH_ready (rs:=[2]) aC aK ?_
   refine AllReadyH.cons (o:=_) rfl (fun K hK=>?_) AllReadyH.nil
   go_simp
   clear hHeld
   go_at_call 17
   refine (tC _ _ _ _ (Dat.cC.bel (cE.trans NE.out.bel bl) HV.out) ZX.out).mono ?_
   rintro e w7 ⟨vs7,rfl,hv7,hb7⟩
   obtain⟨anB,anC,anD,anE,anF,anG,anH,anI,anJ,anK,anL,anM,anN,anO,rfl,-⟩:=cv.vals hv7
   have HP7:=hide hv7
   clear hv7
   have mV:cE wE w7:=cE.trans (cE.drew (cE.refl _)) hb7
   refine hK.out _ _ ?_ (fun hHeld=>?_)
   ·
    exact⟨(mV.box _ hlA _).trans Lr,(mV.box _ hlA _).trans Ls,(mV.box _ hlA _).trans Lt,(mV.box _ hlA _).trans Lu,(mV.box _ hlA _).trans Lv,(mV.box _ hlA _).trans Lw,(mV.box _ hlA _).trans Lx,(mV.box _ hlA _).trans Ly,(mV.box _ hlA _).trans Lz,(mV.box _ hlA _).trans LA,(mV.box _ hlA _).trans CC,(mV.box _ hlA _).trans CD,(mV.box _ hlA _).trans CE,(mV.box _ xL _).trans LC,(mV.box _ xL _).trans LD,(mV.box _ xL _).trans LK,(mV.box _ xL _).trans LL,(mV.box _ xL _).trans LM,(mV.box _ xL _).trans LN,(mV.box _ xL _).trans LO,(mV.box _ xL _).trans LP,(mV.box _ xL _).trans LQ,(mV.box _ xL _).trans LR,(mV.box _ xL _).trans CF,(mV.box _ xL _).trans CG,(mV.box _ xL _).trans CH⟩
   clear hK K
   (try simp only[Act.put,aa,ab,ae,af,ag,ah])
   refine wpAnyH_ready (rs:=[3]) aC aK ?_
   refine AllReadyH.cons (o:=_) rfl (fun K hK=>?_) AllReadyH.nil
   go_simp
   clear hHeld
   go_at_call 19
   refine (qf (cv.mk x0 x1 x2 x3 x4 x5 x6 x7 x8 x9 x10 x11 x12) (fun _=>True) _ _ _ _ (Dat.dB.vals (S:=fun _=>True) (fun _ _=>trivial) (HXE.out.bel mV)) HP7.out).mono ?_
   rintro e w8 ⟨rfl,hb8⟩
   have np:cE wE w8:=cE.trans mV hb8
   refine hK.out _ _ ?_ (fun hHeld=>?_)
   ·
    exact⟨(np.box _ hlA _).trans Lr,(np.box _ hlA _).trans Ls,(np.box _ hlA _).trans Lt,(np.box _ hlA _).trans Lu,(np.box _ hlA _).trans Lv,(np.box _ hlA _).trans Lw,(np.box _ hlA _).trans Lx,(np.box _ hlA _).trans Ly,(np.box _ hlA _).trans Lz,(np.box _ hlA _).trans LA,(np.box _ hlA _).trans CC,(np.box _ hlA _).trans CD,(np.box _ hlA _).trans CE,(np.box _ xL _).trans LC,(np.box _ xL _).trans LD,(np.box _ xL _).trans LK,(np.box _ xL _).trans LL,(np.box _ xL _).trans LM,(np.box _ xL _).trans LN,(np.box _ xL _).trans LO,(np.box _ xL _).trans LP,(np.box _ xL _).trans LQ,(np.box _ xL _).trans LR,(np.box _ xL _).trans CF,(np.box _ xL _).trans CG,(np.box _ xL _).trans CH⟩
   clear hK K
   (try simp only[Act.put,aa,ab,ae,af,ag,ah])
   refine eH 4 ?_
   refine wpAnyH_done aC ?_ _
   clear hHeld HP7 hb7 hb8 mV
   go_upto_region 19 with (fail)
   refine dO fun wF hwF=>?_
   have LS:cE wE wF:=by rw[<-hwF];exact bl
   clear hwF
   clear np
   clear hlA hfA Lr Ls Lt Lu Lv Lw Lx Ly Lz LA CC CD CE
   clear xL hfX LC LD LK LL LM LN LO LP LQ LR CF CG CH
   have NF:=hide (NE.out.on LS)
   have HXF:=hide (HXE.out.bel LS)
   have BXF:=hide (BXE.out.on LS)
   have HGF:=hide (HGE.out.bel LS)
   have hzF:=LS.size
   clear NE HXE BXE HGE LS
   have pb:=BXF.out
   obtain⟨xL,hfX,LC,LD,LK,LL,LM,LN,LO,LP,LQ,LR,CF,CG,CH⟩:=pb
   go_upto_region 20 with (go_at_call 20;refine (sZ (cv.mk x0 x1 x2 x3 x4 x5 x6 x7 x8 x9 x10 x11 x12) LX _ _ 1 HXF.out HNX.out aB HCN.out).mono ?_;rintro e w9 ⟨rfl,-,ho9⟩;rw[JT.out])
   clear xL hfX LC LD LK LL LM LN LO LP LQ LR CF CG CH
   have anP:(0:Int)<=(q0:Int):=aB
   have dk9:decide ((1:Int)+(q0:Int)<0)=false:=aD
   have N9:=hide (NF.out.off ho9 (fun x hx h=>by have:=HLX.out x h;omega) (fun x hx h=>by have:=HLX.out x h;have:=HLG.out;omega) (fun x hx h=>by have h1:=HLW.out x hx;have h2:=HLX.out x h;omega))
   have HG9:=hide (HGF.out.gL ho9 (fun x hx h=>by have h1:=HLG.out x hx;have h2:=HLX.out x h;omega))
   have BB:=ho9.size
   clear NF HGF HXF BXF HNX ho9
   refine dO fun wG hwG=>?_
   have TC:cE w9 wG:=by rw[<-hwG];exact bl
   clear hwG
   have NF:=hide (N9.out.on TC)
   have HGG:=hide (HG9.out.bel TC)
   have hzG:=TC.size
   clear N9 HG9 TC
   have pb:=NF.out.sg
   obtain⟨TB,X2,F3,F4,F5,F6,F7,F8,F9,Ga,Gb,Gc,yN,yO,yP⟩:=pb
   have pb:=NF.out.sw
   obtain⟨hlW,hfW,QE,QF,QG,QH,QI,QK,QL,QM,QN,QO,Gd,Ge,Gf⟩:=pb
   go_upto_region 23 with (go_at_call 19;refine (qf (cv.mk y0 y1 y2 y3 y4 y5 y6 y7 y8 y9 sB sC sM) (fun _=>True) (fun _=>True) _ _ _ (Dat.dB.vals (S:=fun _=>True) (fun _ _=>trivial) HGG.out) (Dat.dB.vals (S:=fun _=>True) (fun _ _=>trivial) NF.out.ow)).mono ?_;rintro e w10 ⟨rfl,aiu⟩)
   clear TB X2 F3 F4 F5 F6 F7 F8 F9 Ga Gb Gc yN yO yP
   clear hlW hfW QE QF QG QH QI QK QL QM QN QO Gd Ge Gf
   refine dO fun wH hwH=>?_
   have TD:cE wG wH:=by rw[<-hwH];exact bl
   clear hwH
   clear aiu
   have NH:=hide (NF.out.on TD)
   have HGH:=hide (HGG.out.bel TD)
   have hzH:=TD.size
   clear NF HGG TD
   have pb:=NH.out.sg
   obtain⟨TB,X2,F3,F4,F5,F6,F7,F8,F9,Ga,Gb,Gc,yN,yO,yP⟩:=pb
   go_upto_region 24 with (go_at_call 20;refine (sZ (cv.mk y0 y1 y2 y3 y4 y5 y6 y7 y8 y9 sB sC sM) LG _ _ 1 HGH.out HNG.out aB HCL.out).mono ?_;rintro e w11 ⟨rfl,hM,Z3⟩;rw[HQ.out];have aeZ:=hide hM;clear hM)
   clear TB X2 F3 F4 F5 F6 F7 F8 F9 Ga Gb Gc yN yO yP
   have N11:=hide (NH.out.off Z3 (fun x hx h=>by have:=HLG.out x h;omega) (fun x hx h=>by have:=HLG.out x h;omega) (fun x hx h=>by have h1:=HLW.out x hx;have h2:=HLG.out x h;omega))
   have anQ:=Z3.size
   clear NH HGH HNG Z3
   refine dO fun wI hwI=>?_
   have JE:cE w11 wI:=by rw[<-hwI];exact bl
   clear hwI
   have NI:=hide (N11.out.on JE)
   have HMI:=hide (cv.uz.bel JE aeZ.out)
   have hzI:=JE.size
   clear N11 aeZ JE
   have dq0:decide ((1:Int)+(q:Int)<0)=false:=aD
   have dq1:((1:Int)+(q:Int) != 1+(q:Int))=false:=aK
   have pb:=NI.out.sg
   obtain⟨TB,X2,F3,F4,F5,F6,F7,F8,F9,Ga,Gb,Gc,yN,yO,yP⟩:=pb
   go_upto_region 30 with (go_at_call 21;refine (ta (cv.mk y0 y1 y2 y3 y4 y5 y6 y7 y8 y9 sB sC sM) LG _ _ 1 (cv.uz.bel bl HMI.out) aB HCL.out).mono ?_;rintro e w12 ⟨rfl,aiw⟩;rw[HQ.out])
   clear TB X2 F3 F4 F5 F6 F7 F8 F9 Ga Gb Gc yN yO yP
   refine dO fun wJ hwJ=>?_
   have TE:cE wI wJ:=by rw[<-hwJ];exact bl
   clear hwJ
   clear aiw
   have NJ:=hide (NI.out.on TE)
   have HMJ:=hide (cv.uz.bel TE HMI.out)
   have hzJ:=TE.size
   clear NI HMI TE
   have TF:=NJ.out.bel
   have PJ:=hide NJ.out.pa
   have RJ:=hide NJ.out.pr
   have QJ:=hide NJ.out.pv
   refine eP 12 (fun s u wq=>(cE wJ wq)/\(s 0=true->(u 0)=.agg #[.slice A0 x0.length c0,.slice A1 x1.length c1,.slice A2 x2.length c2,.slice A3 x3.length c3,.string x4,.int .i64 x5,.slice A6 x6.length c6,.slice A7 x7.length c7,.slice A8 x8.length c8,.bool x9,.int .i64 x10,.int .i64 x11,.int .i64 x12])/\(s 1=true->s 6=false->OL wq (u 1) (cv.mk x0 x1 x2 x3 x4 x5 x6 x7 x8 x9 x10 x11 x12))/\(s 2=true->(u 2)=.agg #[.int .i64 k,.int .i64 n,.int .i64 i,.string t,.int .i64 lo,.int .i64 hi])/\(s 3=true->(u 3)=.agg #[.int .i64 k,.int .i64 n,.int .i64 i,.string t,.int .i64 lo,.int .i64 hi])/\(s 4=true->(u 4)=.agg #[.int .i64 vk,.int .i64 vn,.int .i64 vi,.string vt,.int .i64 vl,.int .i64 vh])/\(s 5=true->(u 5)=.agg #[.int .i64 vk,.int .i64 vn,.int .i64 vi,.string vt,.int .i64 vl,.int .i64 vh])/\(s 6=true->D9 wJ.heap.size wq (u 6) (cv.mk y0 y1 y2 y3 y4 y5 y6 y7 y8 y9 sB sC sM) cc (fun b=>s 10=true/\PtrTo (u 10) b))/\(s 7=true->(u 7)=(u 6))/\(s 8=true->(u 6)=.tuple #[(u 8),.int .i64 cc])/\(s 9=true->(u 9)=.int .i64 cc)/\(s 10=true->s 11=false->DJ wJ.heap.size wq (u 10))/\(s 11=true->xt wJ.heap.size wq (u 10) (u 8))) [(0,some 96),(1,some 97),(2,some 98),(3,some 99),(4,some 100),(5,some 101),(6,some 102),(7,some 95),(8,some 103),(9,some 104),(10,some 16),(11,none),(12,some 17)] rfl aC aC ?hJ rfl ?hstep ?hlast
   case hJ=>exact fun u=>⟨bl,(fun h=>absurd h ai),(fun h=>absurd h ai),(fun h=>absurd h ai),(fun h=>absurd h ai),(fun h=>absurd h ai),(fun h=>absurd h ai),(fun h=>absurd h ai),(fun h=>absurd h ai),(fun h=>absurd h ai),(fun h=>absurd h ai),(fun h=>absurd h ai),(fun h=>absurd h ai)⟩
   case hstep =>
    simp only[iT,Act.put,aa,ab,ae,af,ag,ah]
    refine (cB (i:=0) (i2:=1) (o:=_) rfl ?s0 (cB (i:=1) (i2:=2) (o:=_) rfl ?s1 (cB (i:=2) (i2:=3) (o:=_) rfl ?s2 (cB (i:=3) (i2:=4) (o:=_) rfl ?s3 (cB (i:=4) (i2:=5) (o:=_) rfl ?s4 (cB (i:=5) (i2:=6) (o:=_) rfl ?s5 (cB (i:=6) (i2:=7) (o:=_) rfl ?s6 (cB (i:=7) (i2:=8) (o:=_) rfl ?s7 (cB (i:=8) (i2:=9) (o:=_) rfl ?s8 (cB (i:=9) (i2:=10) (o:=_) rfl ?s9 (cB (i:=10) (i2:=11) (o:=_) rfl ?s10 (cB (i:=11) (i2:=12) (o:=_) rfl ?s11 (gD aF)))))))))))))
    case s0 =>
     intro u wa s hs ha cl hJ K hK
     obtain⟨jB,il,lW,iJ,im,dC,iq,eC,cQ,ik,iu,iw,iR⟩:=hJ
     simp only[Act.put,aa,ab,ae,af,ag,ah]at hK |-
     obtain⟨hlq,rB,j7,j8,j9,ka,kb,kf,kh,ki,kj,kk,ib,ic,ig⟩:=PJ.out.on jB
     exact XO
    case s1 =>
     intro u wa s hs ha cl hJ K hK
     obtain⟨jB,il,lW,iJ,im,dC,iq,eC,cQ,ik,iu,iw,iR⟩:=hJ
     have Qz:=il (ha 0 aC)
     simp only[Act.put,aa,ab,ae,af,ag,ah]at hK |-
     rw[Qz]at hK |-
     go_simp
     go_at_call 17
     refine (tC _ _ _ _ (Dat.cC.bel (cE.trans TF jB) HV.out) ZX.out).mono ?_
     exact XP
    case s2 =>
     intro u wa s hs ha cl hJ K hK
     obtain⟨jB,il,lW,iJ,im,dC,iq,eC,cQ,ik,iu,iw,iR⟩:=hJ
     simp only[Act.put,aa,ab,ae,af,ag,ah]at hK |-
     obtain⟨hlv,q0,q1,q2,q3,q4,q5⟩:=RJ.out.on jB
     exact XQ
    case s3 =>
     exact XR
    case s4 =>
     intro u wa s hs ha cl hJ K hK
     obtain⟨jB,il,lW,iJ,im,dC,iq,eC,cQ,ik,iu,iw,iR⟩:=hJ
     simp only[Act.put,aa,ab,ae,af,ag,ah]at hK |-
     obtain⟨hlv,q0,q1,q2,q3,q4,q5⟩:=QJ.out.on jB
     exact XS
    case s5 =>
     exact XT
    case s6 =>
     intro u wa s hs ha cl hJ K hK
     obtain⟨jB,il,lW,iJ,im,dC,iq,eC,cQ,ik,iu,iw,iR⟩:=hJ
     obtain⟨vs5,Z0,hv5⟩:=lW (ha 1 aC) hs
     have QA:=im (ha 3 aC)
     have QB:=iq (ha 5 aC)
     simp only[Act.put,aa,ab,ae,af,ag,ah]at hK |-
     rw[QA]at hK |-
     rw[QB]at hK |-
     rw[Z0]at hK |-
     go_simp
     go_at_call 7
     refine (Be (cv.mk x0 x1 x2 x3 x4 x5 x6 x7 x8 x9 x10 x11 x12) ⟨k,n,i,t,lo,hi⟩ ⟨vk,vn,vi,vt,vl,vh⟩ _ _ _ (HT.out.on (cE.trans TF jB)) (HP.out.on (cE.trans TF jB)) hv5 HR.out HX.out HL0.out).mono ?_
     exact XU
    case s7 =>
     exact XV
    case s8 =>
     exact XW
    case s9 =>
     exact XX
    case s10 =>
     exact XY
    case s11 =>
     intro u wa s hs ha cl hJ K hK
     obtain⟨jB,il,lW,iJ,im,dC,iq,eC,cQ,ik,iu,iw,iR⟩:=hJ
     simp only[Act.put,aa,ab,ae,af,ag,ah]at hK |-
     obtain⟨g,eg,hgN,hgz⟩:=iw (ha 10 aC) hs
     obtain⟨us,L,jo,hO,hN,hL⟩:=eC (ha 6 aC)
     have uF:u 8=.agg us.toArray:=by have h:=(ik (ha 8 aC)).symm.trans jo;simpa using h
     have eg2:u 10=.pointer (some ⟨g,0,none⟩):=eg
     rw[uF,eg2]at hK |-
     have hlen:us.length=13:=(Dat.dB.vals (S:=fun _=>True) (fun _ _=>trivial) hO).length
     have hth:=hgz.there
     rw[<-hlen]at hth
     refine wp_store_mid 30 (.tmp 16) (.tmp 103) rfl g 0 us.toArray rfl rfl (by rw[List.size_toArray];exact hth) cp (all_oneCell_toArray hO.oneCell) ?_
     exact XZ
   case hlast =>
    simp only[iT,Act.put,aa,ab,ae,af,ag,ah]
    intro u wa hJ K hK
    obtain⟨s,ha,jB,il,lW,iJ,im,dC,iq,eC,cQ,ik,iu,iw,iR⟩:=hJ
    have F2:=iu (ha 9 aF)
    obtain⟨us,LH,jo,hOH,hNH,hLH⟩:=eC (ha 6 aF)
    have uF:u 8=.agg us.toArray:=by have h:=(ik (ha 8 aF)).symm.trans jo;simpa using h
    have hS:=iR (ha 11 aF)
    rw[uF]at hS
    obtain⟨HA0,Hc0,-,HA1,Hc1,-,HA2,Hc2,-,HA3,Hc3,-,HA6,Hc6,-,HA7,Hc7,-,HA8,Hc8,-,-,rfl,-⟩:=cv.gV hOH
    obtain⟨bH,-,eW,hWN,-⟩:=id hS
    have SH:=hS.sb eW
    have aiy:=hide (show ∀b,b∈LH->wJ.heap.size<=b/\b<wa.heap.size/\b≠bH from fun b hb=>⟨(hLH b hb).1,hOH.lt _ _ _ b hb,fun q=>(hLH b hb).2 ⟨(ha 10 aF),q▸eW⟩⟩)
    have X0:u 10=.pointer (some ⟨bH,0,none⟩):=eW
    rw[F2,X0]at hK |-
    have HOH:=hide hOH
    have HNH:=hide hNH
    have ae0:=jB
    clear il lW iJ im dC iq eC cQ ik iu iw iR hS eW X0 jo uF F2 hLH hOH hNH ha
    go_simp
    refine hK.out _ _ ?_
    clear hK K
    obtain⟨wK,rfl⟩:∃x,x=wa:=⟨_,rfl⟩
    have NF:=hide (NJ.out.on ae0)
    have HMK:=hide (cv.uz.bel ae0 HMJ.out)
    have SH2:=hide SH
    clear NJ HMJ PJ RJ QJ SH aiy HNH TF
    have pb:=SH2.out
    obtain⟨hlH,hfH,aiz,aiA,aiB,aiC,aiD,aiE,aiF,aiG,aiH,aiI,ae1,ae2,ae3⟩:=pb
    have pb:=NF.out.sw
    obtain⟨hlW,hfW,QE,QF,QG,QH,QI,QK,QL,QM,QN,QO,Gd,Ge,Gf⟩:=pb
    go_upto_region 34 with (go_at_call 19;refine (qf (cv.mk y0 y1 y2 y3 y4 y5 y6 y7 y8 y9 sB sC sM) (fun _=>True) (fun _=>True) _ _ _ (Dat.dB.vals (S:=fun _=>True) (fun _ _=>trivial) HOH.out) (Dat.dB.vals (S:=fun _=>True) (fun _ _=>trivial) NF.out.ow)).mono ?_;rintro e w15 ⟨rfl,aiJ⟩)
    clear hlH hfH aiz aiA aiB aiC aiD aiE aiF aiG aiH aiI ae1 ae2 ae3
    clear hlW hfW QE QF QG QH QI QK QL QM QN QO Gd Ge Gf
    refine dO fun wL hwL=>?_
    have Z4:cE wK wL:=by rw[<-hwL];exact bl
    clear hwL
    clear aiJ
    have NL:=hide (NF.out.on Z4)
    have HML:=hide (cv.uz.bel Z4 HMK.out)
    clear NF HMK Z4
    have pb:=NL.out.sg
    obtain⟨TB,X2,F3,F4,F5,F6,F7,F8,F9,Ga,Gb,Gc,yN,yO,yP⟩:=pb
    go_wp2_with (go_at_call 21;refine (ta (cv.mk y0 y1 y2 y3 y4 y5 y6 y7 y8 y9 sB sC sM) LG _ _ 1 (cv.uz.bel bl HML.out) aB HCL.out).mono ?_;rintro e w16 ⟨rfl,hb16⟩;rw[HQ.out])
    all_goals
     go_returns
     exact⟨rfl,cE.trans NL.out.bel bl⟩
theorem FnExactWriteVariable_walk (s0:cv) (TR:List Value) (r v:cV) (w:World) (hv0:Dat.cC w (fun _=>True) s0.D TR) (hr:r.Ok) (hx:v.Ok) (h:Tabs w) :
  Calls Tryz.prog 4 #[.agg TR.toArray,r.val,v.val] w fun e w'=>e=.returned (.bool true)/\cE w w':=FnExactWriteVariable_walk0 s0 TR r v w hv0 hr hx h.1 h.2
end Go.Proofs.YtjngkknbpfgdcaaGreatDoor
