import Derived.Test.YtjngkknbpfgdcaaGreatDoorPr
import Derived.Test.YtjngkknbpfgdcaaGreatDoorPNb
import Derived.Test.YtjngkknbpfgdcaaGreatDoorPMActive
set_option linter.unusedVariables false
set_option linter.unusedSimpArgs false
set_option maxRecDepth 100000
set_option maxHeartbeats 8000000
namespace Go.Proofs.YtjngkknbpfgdcaaGreatDoor
open Go.RowKit
theorem BD:MU 29:=by
 intro x0 x1 x2 x3 x4 x5 x6 x7 x8 x9 x10 x11 x12 S w vs hv hwt
 obtain⟨A0,c0,A1,c1,A2,c2,A3,c3,A6,c6,A7,c7,A8,c8,rfl,g0,g1,g2,g3,g4,g5,g6,g7,g8,-,g10,g11,g12⟩:=cv.vals hv
 have HR0:=hide g0
 have hl0:=g0.1
 have hm0:=g0.2.1
 simp only[aj]at hl0
 unfold maxLen at hm0
 have HR1:=hide g1
 have hl1:=g1.1
 have hm1:=g1.2.1
 simp only[aj]at hl1
 unfold maxLen at hm1
 have HR2:=hide g2
 have hl2:=g2.1
 have hm2:=g2.2.1
 simp only[aj]at hl2
 unfold maxLen at hm2
 have HR3:=hide g3
 have hl3:=g3.1
 have sK:=g3.2.1
 simp only[aj]at hl3
 unfold maxLen at sK
 have IK:=hide g6
 have SA:=g6.1
 have hm6:=g6.2.1
 simp only[aj]at SA
 unfold maxLen at hm6
 have HR7:=hide g7
 have SD:=g7.1
 have hm7:=g7.2.1
 simp only[aj]at SD
 unfold maxLen at hm7
 have SE:=hide g8
 have hl8:=g8.1
 have hm8:=g8.2.1
 simp only[aj]at hl8
 unfold maxLen at hm8
 rw[cv.fU]at hwt
 simp only[Dat.MV,Dat.ln,aj]at hwt
 have hx0:x0.length<=1048576:=aB
 have hx1:x1.length<=1048576:=aB
 have hx2:x2.length<=1048576:=aB
 have hx3:x3.length<=1048576:=aB
 have hx6:x6.length<=1048576:=aB
 have hx7:x7.length<=1048576:=aB
 have hx8:x8.length<=1048576:=aB
 have HFR:=hide (show ∀(k:Nat) (h:k<x1.length),x1[k].fl.length<=1048576 from fun k h=>by have:=Dl x1 k h;omega)
 have HFO:=hide (show ∀(k:Nat) (h:k<x2.length),x2[k].its.length+x2[k].kys.length<=1048576 from fun k h=>by have:=Dm x2 k h;omega)
 clear hwt hv g0 g1 g2 g3 g6 g7 g8
 obtain⟨is,his,zs0,zs1,zs2⟩:=info_parts zH
 obtain⟨iv,Ek,Mj,Mk,Ml⟩:=info_parts xf
 obtain⟨ia,hia,za0,za1,za2⟩:=info_parts IL
 obtain⟨io,hio,zo0,zo1,zo2⟩:=info_parts IM
 go_enter Tryz.func29,Tryz.ntmps29
 go_upto_region 2 with (fail)
 refine dO fun w2 hw2=>?_
 replace hw2:((w.alloc (.cells #[.slice A0 x0.length c0,.slice A1 x1.length c1,.slice A2 x2.length c2,.slice A3 x3.length c3,.string x4,.int .i64 x5,.slice A6 x6.length c6,.slice A7 x7.length c7,.slice A8 x8.length c8,.bool x9,.int .i64 x10,.int .i64 x11,.int .i64 x12] 30)).alloc (.cells #[.slice none 0 0,.slice none 0 0,.slice none 0 0,.slice none 0 0,.string ByteArray.empty,.int .i64 0,.slice none 0 0,.slice none 0 0,.slice none 0 0,.bool false,.int .i64 0,.int .i64 0,.int .i64 0] 30)).alloc (.cells #[.slice A0 x0.length c0,.slice A1 x1.length c1,.slice A2 x2.length c2,.slice A3 x3.length c3,.string x4,.int .i64 x5,.slice A6 x6.length c6,.slice A7 x7.length c7,.slice A8 x8.length c8,.bool x9,.int .i64 x10,.int .i64 x11,.int .i64 x12] 30)=w2:=hw2
 have hb2:cE w w2:=by rw[<-hw2];exact bl
 have hz2:w2.heap.size=w.heap.size+3:=by rw[<-hw2];simp
 have SQ:SB w2 w.heap.size (.slice A0 x0.length c0) (.slice A1 x1.length c1) (.slice A2 x2.length c2) (.slice A3 x3.length c3) (.string x4) (.int .i64 x5) (.slice A6 x6.length c6) (.slice A7 x7.length c7) (.slice A8 x8.length c8) (.bool x9) (.int .i64 x10) (.int .i64 x11) (.int .i64 x12):=by rw[<-hw2];first | exact (SB.new w 30).on bl | trace_state
 have SR:SB w2 (w.heap.size+1) (.slice none 0 0) (.slice none 0 0) (.slice none 0 0) (.slice none 0 0) (.string ByteArray.empty) (.int .i64 0) (.slice none 0 0) (.slice none 0 0) (.slice none 0 0) (.bool false) (.int .i64 0) (.int .i64 0) (.int .i64 0):=by rw[<-hw2];first | (have h:=(SB.new (w.alloc (.cells #[.slice A0 x0.length c0,.slice A1 x1.length c1,.slice A2 x2.length c2,.slice A3 x3.length c3,.string x4,.int .i64 x5,.slice A6 x6.length c6,.slice A7 x7.length c7,.slice A8 x8.length c8,.bool x9,.int .i64 x10,.int .i64 x11,.int .i64 x12] 30)) 30 (v0:=.slice none 0 0) (v1:=.slice none 0 0) (v2:=.slice none 0 0) (v3:=.slice none 0 0) (v4:=.string ByteArray.empty) (v5:=.int .i64 0) (v6:=.slice none 0 0) (v7:=.slice none 0 0) (v8:=.slice none 0 0) (v9:=.bool false) (v10:=.int .i64 0) (v11:=.int .i64 0) (v12:=.int .i64 0));rw[World.size_alloc]at h;exact h.on bl) | trace_state
 have SBB:SB w2 (w.heap.size+2) (.slice A0 x0.length c0) (.slice A1 x1.length c1) (.slice A2 x2.length c2) (.slice A3 x3.length c3) (.string x4) (.int .i64 x5) (.slice A6 x6.length c6) (.slice A7 x7.length c7) (.slice A8 x8.length c8) (.bool x9) (.int .i64 x10) (.int .i64 x11) (.int .i64 x12):=by rw[<-hw2];first | (have h:=SB.new ((w.alloc (.cells #[.slice A0 x0.length c0,.slice A1 x1.length c1,.slice A2 x2.length c2,.slice A3 x3.length c3,.string x4,.int .i64 x5,.slice A6 x6.length c6,.slice A7 x7.length c7,.slice A8 x8.length c8,.bool x9,.int .i64 x10,.int .i64 x11,.int .i64 x12] 30)).alloc (.cells #[.slice none 0 0,.slice none 0 0,.slice none 0 0,.slice none 0 0,.string ByteArray.empty,.int .i64 0,.slice none 0 0,.slice none 0 0,.slice none 0 0,.bool false,.int .i64 0,.int .i64 0,.int .i64 0] 30)) 30 (v0:=.slice A0 x0.length c0) (v1:=.slice A1 x1.length c1) (v2:=.slice A2 x2.length c2) (v3:=.slice A3 x3.length c3) (v4:=.string x4) (v5:=.int .i64 x5) (v6:=.slice A6 x6.length c6) (v7:=.slice A7 x7.length c7) (v8:=.slice A8 x8.length c8) (v9:=.bool x9) (v10:=.int .i64 x10) (v11:=.int .i64 x11) (v12:=.int .i64 x12);simp only[World.size_alloc]at h;exact h) | trace_state
 have T2:=hide (show td w (w.heap.size+3) w2 (w.heap.size+2) w.heap.size (w.heap.size+1) (.slice A0 x0.length c0) (.slice A1 x1.length c1) (.slice A2 x2.length c2) (.slice A3 x3.length c3) (.string x4) (.int .i64 x5) (.slice A6 x6.length c6) (.slice A7 x7.length c7) (.slice A8 x8.length c8) (.bool x9) (.int .i64 x10) (.int .i64 x11) (.int .i64 x12) (.slice A0 x0.length c0) (.slice A1 x1.length c1) (.slice A2 x2.length c2) (.slice A3 x3.length c3) (.string x4) (.int .i64 x5) (.slice A6 x6.length c6) (.slice A7 x7.length c7) (.slice A8 x8.length c8) (.bool x9) (.int .i64 x10) (.int .i64 x11) (.int .i64 x12) []from⟨⟨SBB,mv.nil _ _,hb2,by omega,by omega,by omega⟩,SQ,SR,by omega,by omega,by omega,by omega,by omega⟩)
 clear hw2 hb2 hz2 SQ SR SBB
 obtain⟨hlq,rB,j7,j8,j9,ka,kb,kf,kh,ki,kj,kk,ib,ic,ig⟩:=T2.out.sb
 obtain⟨hlb,hfb,kC,kD,kE,kF,kG,kH,kI,kJ,kK,kL,ix,iy,iz⟩:=T2.out.cl.box
 have tO:=hide (fp.te w2 9 1)
 obtain⟨nw,om⟩:=Row.src (mq x0) (Row.bel (cE.trans T2.out.cl.bel (show cE w2 (w2.alloc (.cells #[] 9))from bl)) HR0.out)
 rw[aj]at om
 have sO:=hide om
 clear om
 go_wp2_with (at_builtin;refine fO rfl (.tmp 7) (.tmp 9) 24 rfl 9 is (.string ByteArray.empty) 1 16 Tryz.underlying24 his zs0 zs1 zs2 aF aF tO.out sO.out c0 rfl rfl (fun b _ h=>by cases h) bj aY ?_)
 intro v9 w9 oo qQ rC
 have HQ:=hide (kM qQ rC)
 have mK:=hide (show fp w9 9 1 v9 [] (x0.map (fun x=>[Dat.str x]))from oo)
 clear oo qQ rC tO sO
 clear hlq rB j7 j8 j9 ka kb kf kh ki kj kk ib ic ig hlb hfb kC kD kE kF kG kH kI kJ kK kL ix iy iz
 obtain⟨B0,m0,d0,rfl⟩:∃A9 n9 c9,v9=.slice A9 n9 c9:=by obtain⟨A9,c9,L9,wM,-⟩:=mK.out.ownRow;exact⟨_,_,_,wM⟩
 have nc:=hide (T2.out.on HQ.out.1)
 obtain⟨tf,th,nG,nH,nK,nL,nM,nN,nO,nP,nQ,nR,lp,lu,lx⟩:=nc.out.sb
 obtain⟨ot,ou,kN,kO,kP,kQ,kR,kS,kT,kU,kV,kW,jb,jc,jd⟩:=nc.out.cl.box
 go_upto_region 3 with (fail)
 refine dO fun wq3 MW=>?_
 have T3:=hide (show td w (w.heap.size+3) wq3 (w.heap.size+2) w.heap.size (w.heap.size+1) (.slice B0 m0 d0) (.slice A1 x1.length c1) (.slice A2 x2.length c2) (.slice A3 x3.length c3) (.string x4) (.int .i64 x5) (.slice A6 x6.length c6) (.slice A7 x7.length c7) (.slice A8 x8.length c8) (.bool x9) (.int .i64 x10) (.int .i64 x11) (.int .i64 x12) (.slice A0 x0.length c0) (.slice A1 x1.length c1) (.slice A2 x2.length c2) (.slice A3 x3.length c3) (.string x4) (.int .i64 x5) (.slice A6 x6.length c6) (.slice A7 x7.length c7) (.slice A8 x8.length c8) (.bool x9) (.int .i64 x10) (.int .i64 x11) (.int .i64 x12) [⟨9,1,(.slice B0 m0 d0),[],x0.map (fun x=>[Dat.str x])⟩]from by rw[<-MW];exact T2.out.next HQ.out.1 mK.out HQ.out.2 0 (nc.out.cl.box.Dn _))
 clear tf th nG nH nK nL nM nN nO nP nQ nR lp lu lx ot ou kN kO kP kQ kR kS kT kU kV kW jb jc jd
 clear MW HQ mK nc T2
 obtain⟨hlq,rB,j7,j8,j9,ka,kb,kf,kh,ki,kj,kk,ib,ic,ig⟩:=T3.out.sb
 obtain⟨hlb,hfb,kC,kD,kE,kF,kG,kH,kI,kJ,kK,kL,ix,iy,iz⟩:=T3.out.cl.box
 go_upto_region 4 with (go_at_call 84;refine (Dp x1 S _ _ _ (Row.bel T3.out.cl.bel HR1.out) hx1 HFR.out).mono ?_;rintro e w9 ⟨v9,L1,rfl,oo,Ut,Gy⟩;have mK:=hide oo;have Uu:=hide Ut;have Ez:=hide Gy;clear oo Ut Gy;obtain⟨B1,m1,d1,rfl⟩:∃A9 n9 c9,v9=.slice A9 n9 c9:=bO;have nc:=hide (T3.out.on Ez.out);obtain⟨ot,ou,kN,kO,kP,kQ,kR,kS,kT,kU,kV,kW,jb,jc,jd⟩:=nc.out.cl.box)
 clear hlq rB j7 j8 j9 ka kb kf kh ki kj kk ib ic ig hlb hfb kC kD kE kF kG kH kI kJ kK kL ix iy iz
 refine dO fun wq4 MX=>?_
 have T4:=hide (show td w (w.heap.size+3) wq4 (w.heap.size+2) w.heap.size (w.heap.size+1) (.slice B0 m0 d0) (.slice B1 m1 d1) (.slice A2 x2.length c2) (.slice A3 x3.length c3) (.string x4) (.int .i64 x5) (.slice A6 x6.length c6) (.slice A7 x7.length c7) (.slice A8 x8.length c8) (.bool x9) (.int .i64 x10) (.int .i64 x11) (.int .i64 x12) (.slice A0 x0.length c0) (.slice A1 x1.length c1) (.slice A2 x2.length c2) (.slice A3 x3.length c3) (.string x4) (.int .i64 x5) (.slice A6 x6.length c6) (.slice A7 x7.length c7) (.slice A8 x8.length c8) (.bool x9) (.int .i64 x10) (.int .i64 x11) (.int .i64 x12) [⟨9,1,(.slice B0 m0 d0),[],x0.map (fun x=>[Dat.str x])⟩,⟨109,3,(.slice B1 m1 d1),L1,x1.map cA.D⟩]from by rw[<-MX];exact T3.out.next Ez.out mK.out Uu.out 1 (nc.out.cl.box.Dq _))
 clear MX Ez mK Uu nc T3 ot ou kN kO kP kQ kR kS kT kU kV kW jb jc jd
 obtain⟨hlq,rB,j7,j8,j9,ka,kb,kf,kh,ki,kj,kk,ib,ic,ig⟩:=T4.out.sb
 obtain⟨hlb,hfb,kC,kD,kE,kF,kG,kH,kI,kJ,kK,kL,ix,iy,iz⟩:=T4.out.cl.box
 go_upto_region 5 with (fail)
 clear hlq rB j7 j8 j9 ka kb kf kh ki kj kk ib ic ig hlb hfb kC kD kE kF kG kH kI kJ kK kL ix iy iz
 refine dO fun wq5 MZ=>?_
 have T5:=hide (show td w (w.heap.size+3) wq5 (w.heap.size+2) w.heap.size (w.heap.size+1) (.slice B0 m0 d0) (.slice B1 m1 d1) (.slice none 0 0) (.slice A3 x3.length c3) (.string x4) (.int .i64 x5) (.slice A6 x6.length c6) (.slice A7 x7.length c7) (.slice A8 x8.length c8) (.bool x9) (.int .i64 x10) (.int .i64 x11) (.int .i64 x12) (.slice A0 x0.length c0) (.slice A1 x1.length c1) (.slice A2 x2.length c2) (.slice A3 x3.length c3) (.string x4) (.int .i64 x5) (.slice A6 x6.length c6) (.slice A7 x7.length c7) (.slice A8 x8.length c8) (.bool x9) (.int .i64 x10) (.int .i64 x11) (.int .i64 x12) [⟨9,1,(.slice B0 m0 d0),[],x0.map (fun x=>[Dat.str x])⟩,⟨109,3,(.slice B1 m1 d1),L1,x1.map cA.D⟩,⟨81,5,(.slice none 0 0),[],[]⟩]from by rw[<-MZ];exact T4.out.next (cE.refl _) (fp.nil _ _ _) (fun x hx=>(fp.SF hx).elim) 2 (T4.out.cl.box.zT _))
 clear MZ T4
 obtain⟨hlq,rB,j7,j8,j9,ka,kb,kf,kh,ki,kj,kk,ib,ic,ig⟩:=T5.out.sb
 obtain⟨hlb,hfb,kC,kD,kE,kF,kG,kH,kI,kJ,kK,kL,ix,iy,iz⟩:=T5.out.cl.box
 go_wp2_with (fail)
 clear hlq rB j7 j8 j9 ka kb kf kh ki kj kk ib ic ig hlb hfb kC kD kE kF kG kH kI kJ kK kL ix iy iz
 go_loopw [20] (fun iv wr=>∃(i:Nat) (v:Value) (L:List Nat),iv=.int .i64 i/\i<=x2.length/\Hid (td w (w.heap.size+3) wr (w.heap.size+2) w.heap.size (w.heap.size+1) (.slice B0 m0 d0) (.slice B1 m1 d1) v (.slice A3 x3.length c3) (.string x4) (.int .i64 x5) (.slice A6 x6.length c6) (.slice A7 x7.length c7) (.slice A8 x8.length c8) (.bool x9) (.int .i64 x10) (.int .i64 x11) (.int .i64 x12) (.slice A0 x0.length c0) (.slice A1 x1.length c1) (.slice A2 x2.length c2) (.slice A3 x3.length c3) (.string x4) (.int .i64 x5) (.slice A6 x6.length c6) (.slice A7 x7.length c7) (.slice A8 x8.length c8) (.bool x9) (.int .i64 x10) (.int .i64 x11) (.int .i64 x12) [⟨9,1,(.slice B0 m0 d0),[],x0.map (fun x=>[Dat.str x])⟩,⟨109,3,(.slice B1 m1 d1),L1,x1.map cA.D⟩,⟨81,5,v,L,(x2.take i).map cz.D⟩])) (fun iv _=>x2.length - (intOf iv).toNat)
 case atStart=>exact⟨0,_,[],rfl,Nat.zero_le _,hide (by have h:=T5.out;simpa only[List.take_zero,List.map_nil]using h)⟩
 case round =>
  obtain⟨i,v,L,rfl,hi,HT⟩:=hrel
  clear T5
  by_cases h:i<x2.length
  ·
   skip
   have hdc:decide ((i:Int)<(x2.length:Int))=true:=aD
   have hdn:decide (i<x2.length)=true:=by simp[h]
   have hbw:=HT.out.cl.bel
   have hi0:(0:Int)<=(i:Int):=aB
   have hi1:(i:Int)<(x2.length:Int):=aB
   (obtain⟨b1,o1,cH,cM,cN,cO,cP,mw,jr,jR,jI,hA1,hS1,hl1,hx1,hv1,eY,eG,fa,dY,er,db,de,dq,dy,dz⟩:=cz.at HR2.out i h;subst hA1;have jh:=hide (Dat.cC.bel hbw hv1);have hh1:=hbw.box b1 hl1;have hw1:=ak hl1 (cE.size hbw);replace db:=(hh1 _).trans db;replace de:=(hh1 _).trans de;replace dq:=(hh1 _).trans dq;replace dy:=(hh1 _).trans dy;replace dz:=(hh1 _).trans dz;have gv:=hide hx1;have fJ:=hide dY;have jq:=hide er;clear hh1 hv1 hx1 hS1 dY er)
   have hfo:=HFO.out i h
   rw[gv.out]at hfo
   simp only[cz.its,cz.kys]at hfo
   have agS:=fJ.out.1
   have agT:=fJ.out.2.1
   simp only[aj]at agS
   unfold maxLen at agT
   have agU:=jq.out.1
   have agV:=jq.out.2.1
   simp only[aj]at agU
   unfold maxLen at agV
   go_upto_region 8 with (fail)
   refine dO fun wA hwA=>?_
   have El:cE wr wA:=by rw[<-hwA];exact bl
   have OA:=hide (show OB wA wr.heap.size (.int .i64 cH) (.int .i64 cM) (.int .i64 cN) (.slice mw cO.length jr) (.slice jR cP.length jI)from by rw[<-hwA];first | exact OB.new _ _ | exact (((((OB.new _ _).Dn _).Dq _).zT _).xg _).EA _)
   have hzA:wr.heap.size<wA.heap.size:=OA.out.1
   clear hwA
   obtain⟨hlo,Y6,q0,q1,q2,q3,q4⟩:=OA.out
   have tO:=hide (fp.te wA 34 6)
   obtain⟨nw,om⟩:=Row.src (ti cO) (Row.bel (cE.trans hbw (cE.trans El (show cE wA (wA.alloc (.cells #[] 34))from bl))) fJ.out)
   rw[aj]at om
   have sO:=hide om
   clear om
   go_wp2_with (at_builtin;refine fO rfl (.tmp 24) (.tmp 26) 27 rfl 34 iv (.agg #[.int .i64 0,.int .i64 0,.int .i64 0,.string ByteArray.empty,.int .i64 0,.int .i64 0]) 6 56 Tryz.underlying27 Ek Mj Mk Ml aF aF tO.out sO.out jr rfl rfl (fun b _ h=>by cases h) bj aY ?_)
   intro vI wI oo qQ rC
   have HQI:=hide (kM qQ rC)
   have HOI:=hide (show fp wI 34 6 vI [] (cO.map cw.D)from oo)
   clear oo qQ rC tO sO hlo Y6 q0 q1 q2 q3 q4
   obtain⟨AI,nI,dI,rfl⟩:∃A9 n9 c9,vI=.slice A9 n9 c9:=by obtain⟨A9,c9,L9,wM,-⟩:=HOI.out.ownRow;exact⟨_,_,_,wM⟩
   have Y7:=hide (OA.out.on HQI.out.1)
   obtain⟨hlo,Y6,q0,q1,q2,q3,q4⟩:=Y7.out
   go_upto_region 9 with (fail)
   refine dO fun yI hyI=>?_
   have OI:=hide (show OB yI wr.heap.size (.int .i64 cH) (.int .i64 cM) (.int .i64 cN) (.slice AI nI dI) (.slice jR cP.length jI)from by rw[<-hyI];exact Y7.out.xg _)
   have hbI:cE wr yI:=by rw[<-hyI];exact Below.setCell (cE.trans El HQI.out.1) (Nat.le_refl _) _
   have SI:=hide (show fp yI 34 6 (.slice AI nI dI) [] (cO.map cw.D)from by rw[<-hyI];exact HOI.out.keep aK (fun x hx=>eX 3 _ (fun e=>by have:=HQI.out.2 x hx;omega)))
   have hzI:wI.heap.size<=yI.heap.size:=by rw[<-hyI];simp
   have hsI:=HQI.out.1.size
   clear hyI Y7 hlo Y6 q0 q1 q2 q3 q4 HOI
   obtain⟨hlo,Y8,q0,q1,q2,q3,q4⟩:=OI.out
   have tO:=hide (fp.te yI 34 6)
   obtain⟨nw,om⟩:=Row.src (ti cP) (Row.bel (cE.trans hbw (cE.trans hbI (show cE yI (yI.alloc (.cells #[] 34))from bl))) jq.out)
   rw[aj]at om
   have sO:=hide om
   clear om
   go_wp2_with (at_builtin;refine fO rfl (.tmp 29) (.tmp 31) 27 rfl 34 iv (.agg #[.int .i64 0,.int .i64 0,.int .i64 0,.string ByteArray.empty,.int .i64 0,.int .i64 0]) 6 56 Tryz.underlying27 Ek Mj Mk Ml aF aF tO.out sO.out jI rfl rfl (fun b _ h=>by cases h) bj aY ?_)
   intro vJ wJ oo qQ rC
   have Y9:=hide (kM qQ rC)
   have HOJ:=hide (show fp wJ 34 6 vJ [] (cP.map cw.D)from oo)
   clear oo qQ rC tO sO hlo Y8 q0 q1 q2 q3 q4
   obtain⟨AJ,nJ,dJ,rfl⟩:∃A9 n9 c9,vJ=.slice A9 n9 c9:=by obtain⟨A9,c9,L9,wM,-⟩:=HOJ.out.ownRow;exact⟨_,_,_,wM⟩
   have Y7:=hide (OI.out.on Y9.out.1)
   obtain⟨hlo,Y8,q0,q1,q2,q3,q4⟩:=Y7.out
   go_upto_region 10 with (fail)
   refine dO fun yJ hyJ=>?_
   have OJ:=hide (show OB yJ wr.heap.size (.int .i64 cH) (.int .i64 cM) (.int .i64 cN) (.slice AI nI dI) (.slice AJ nJ dJ)from by rw[<-hyJ];exact Y7.out.EA _)
   have hbJ:cE wr yJ:=by rw[<-hyJ];exact Below.setCell (cE.trans hbI Y9.out.1) (Nat.le_refl _) _
   have HPJ:=hide (show fp yJ 34 6 (.slice AJ nJ dJ) [] (cP.map cw.D)from by rw[<-hyJ];exact HOJ.out.keep aK (fun x hx=>eX 4 _ (fun e=>by have:=Y9.out.2 x hx;omega)))
   have agZ:=hide (show fp yJ 34 6 (.slice AI nI dI) [] (cO.map cw.D)from by rw[<-hyJ];exact (SI.out.bel Y9.out.1).keep aK (fun x hx=>eX 4 _ (fun e=>by have:=HQI.out.2 x hx;omega)))
   have hzJ:wJ.heap.size<=yJ.heap.size:=by rw[<-hyJ];simp
   have hsJ:=Y9.out.1.size
   clear hyJ Y7 hlo Y8 q0 q1 q2 q3 q4 HOJ
   obtain⟨AI2,cI2,LI,eI,rI,nI2,mI⟩:=agZ.out.ownRow
   obtain⟨AJ2,cJ2,LJ,eJ,rJ,nJ2,mJ⟩:=HPJ.out.ownRow
   simp only[aj]at eI eJ
   injection eI with eI1 eI2 eI3
   injection eJ with eJ1 eJ2 eJ3
   subst eI1 eI2 eI3 eJ1 eJ2 eJ3
   have ag4:=hide (cz.jQ eY eG fa rI rJ)
   have acd:=SI.out.lt
   have HND:=hide (show (LI++LJ).Nodup from j2 nI2 nJ2 (fun a ha hb=>by have h1:=acd a (mI a ha);have h2:=Y9.out.2 a (mJ a hb);omega))
   have HLM:=hide (show ∀a,a∈LI++LJ->wr.heap.size<a from fun a ha=>(List.mem_append.1 ha).elim (fun q=>by have:=HQI.out.2 a (mI a q);omega) (fun q=>by have:=Y9.out.2 a (mJ a q);omega))
   clear rI rJ nI2 nJ2 mI mJ acd
   obtain⟨hlo,ag5,q0,q1,q2,q3,q4⟩:=OJ.out
   have TJ:=hide (HT.out.on hbJ)
   obtain⟨ot,ou,kN,kO,kP,kQ,kR,kS,kT,kU,kV,kW,jb,jc,jd⟩:=TJ.out.cl.box
   have HOO:=hide (show fp (yJ.alloc (.cells #[.int .i64 cH,.int .i64 cM,.int .i64 cN,.slice AI cO.length dI,.slice AJ cP.length dJ] 81)) 81 5 v L ((x2.take i).map cz.D)from (TJ.out.cl.uD.own ⟨81,5,v,L,(x2.take i).map cz.D⟩ aK).bel bl)
   obtain⟨nw,om⟩:=(fp.Za (k:=5) yJ 81 ag4.out rfl HND.out).src
   have sO:=hide om
   clear om
   have HLV:=hide (HT.out.cl.uD.own ⟨81,5,v,L,(x2.take i).map cz.D⟩ aK).lt
   go_wp2_with (at_builtin;refine fO rfl (.tmp 35) (.tmp 37) 26 rfl 81 io (.agg #[.int .i64 0,.int .i64 0,.int .i64 0,.slice none 0 0,.slice none 0 0]) 5 72 Tryz.underlying26 hio zo0 zo1 zo2 aF aF HOO.out sO.out 1 rfl rfl (fun b hb hm=>by have h1:=HLV.out b hb;have h2:=HLM.out b hm;omega) cf bL ?_)
   intro v9 w9 oo qQ rC
   have ace:fp w9 81 5 v9 (L++(LI++LJ)) ((x2.take (i+1)).map cz.D):=by rw[zU cz.D h,gv.out];first | exact oo | (rw[List.map_take];exact oo)
   obtain⟨A9,n9,c9,rfl⟩:∃A9 n9 c9,v9=.slice A9 n9 c9:=by obtain⟨A9,c9,L9,wM,-⟩:=oo.ownRow;exact⟨_,_,_,wM⟩
   have HGR:=hide (td.grow (l:=[⟨9,1,(.slice B0 m0 d0),[],x0.map (fun x=>[Dat.str x])⟩,⟨109,3,(.slice B1 m1 d1),L1,x1.map cA.D⟩]) (e:=⟨81,5,v,L,(x2.take i).map cz.D⟩) (e':=⟨81,5,.slice A9 n9 c9,L++(LI++LJ),(x2.take (i+1)).map cz.D⟩) HT.out (cE.trans hbJ (show cE yJ (yJ.alloc (.cells #[.int .i64 cH,.int .i64 cM,.int .i64 cN,.slice AI cO.length dI,.slice AJ cP.length dJ] 81))from bl)) qQ ace (fun x hx=>by rcases hx with hx | hx;rcases rC x hx with e | e;exact Or.inl (Or.inl e);right;(try rw[World.size_alloc]at e);have:=hbJ.size;omega;rcases List.mem_append.1 hx with hx | hx;exact Or.inl (Or.inr hx);right;have:=HLM.out x hx;omega))
   obtain⟨GB,GN⟩:=HGR.out
   have HGN:=hide (GN 2 (.slice A9 n9 c9) (GB.zT _))
   clear GN HGR oo ace qQ rC hlo ag5 q0 q1 q2 q3 q4 ot ou kN kO kP kQ kR kS kT kU kV kW jb jc jd
   obtain⟨ag6,ag7,acf,acg,ach,aci,acj,ack,acm,acn,aco,acp,Zb,Zc,Zd⟩:=GB
   exact Uv
  ·
   skip
   have hdc:decide ((i:Int)<(x2.length:Int))=false:=aD
   have hdn:decide (i<x2.length)=false:=aD
   obtain⟨B2,m2,d2,rfl⟩:∃A9 n9 c9,v=.slice A9 n9 c9:=by obtain⟨A9,c9,L9,wM,-⟩:=(HT.out.cl.uD.own ⟨81,5,v,L,(x2.take i).map cz.D⟩ aK).ownRow;exact⟨_,_,_,wM⟩
   have T6:=hide (show td w (w.heap.size+3) wr (w.heap.size+2) w.heap.size (w.heap.size+1) (.slice B0 m0 d0) (.slice B1 m1 d1) (.slice B2 m2 d2) (.slice A3 x3.length c3) (.string x4) (.int .i64 x5) (.slice A6 x6.length c6) (.slice A7 x7.length c7) (.slice A8 x8.length c8) (.bool x9) (.int .i64 x10) (.int .i64 x11) (.int .i64 x12) (.slice A0 x0.length c0) (.slice A1 x1.length c1) (.slice A2 x2.length c2) (.slice A3 x3.length c3) (.string x4) (.int .i64 x5) (.slice A6 x6.length c6) (.slice A7 x7.length c7) (.slice A8 x8.length c8) (.bool x9) (.int .i64 x10) (.int .i64 x11) (.int .i64 x12) [⟨9,1,(.slice B0 m0 d0),[],x0.map (fun x=>[Dat.str x])⟩,⟨109,3,(.slice B1 m1 d1),L1,x1.map cA.D⟩,⟨81,5,(.slice B2 m2 d2),L,x2.map cz.D⟩]from by have h:=HT.out;rw[List.take_of_length_le (show x2.length<=i by omega)]at h;exact h)
   clear HT
   go_upto_region 12 with (fail)
   obtain⟨hlq,rB,j7,j8,j9,ka,kb,kf,kh,ki,kj,kk,ib,ic,ig⟩:=T6.out.sb
   obtain⟨hlb,hfb,kC,kD,kE,kF,kG,kH,kI,kJ,kK,kL,ix,iy,iz⟩:=T6.out.cl.box
   have tO:=hide (fp.te wr 34 6)
   obtain⟨nw,om⟩:=Row.src (ti x3) (Row.bel (cE.trans T6.out.cl.bel (show cE wr (wr.alloc (.cells #[] 34))from bl)) HR3.out)
   rw[aj]at om
   have sO:=hide om
   clear om
   go_wp2_with (at_builtin;refine fO rfl (.tmp 41) (.tmp 43) 27 rfl 34 iv (.agg #[.int .i64 0,.int .i64 0,.int .i64 0,.string ByteArray.empty,.int .i64 0,.int .i64 0]) 6 56 Tryz.underlying27 Ek Mj Mk Ml aF aF tO.out sO.out c3 rfl rfl (fun b _ h=>by cases h) bj aY ?_)
   intro v9 w9 oo qQ rC
   have HQ:=hide (kM qQ rC)
   have mK:=hide (show fp w9 34 6 v9 [] (x3.map cw.D)from oo)
   clear oo qQ rC tO sO
   clear hlq rB j7 j8 j9 ka kb kf kh ki kj kk ib ic ig hlb hfb kC kD kE kF kG kH kI kJ kK kL ix iy iz
   obtain⟨B3,m3,d3,rfl⟩:∃A9 n9 c9,v9=.slice A9 n9 c9:=by obtain⟨A9,c9,L9,wM,-⟩:=mK.out.ownRow;exact⟨_,_,_,wM⟩
   have nc:=hide (T6.out.on HQ.out.1)
   obtain⟨tf,th,nG,nH,nK,nL,nM,nN,nO,nP,nQ,nR,lp,lu,lx⟩:=nc.out.sb
   obtain⟨ot,ou,kN,kO,kP,kQ,kR,kS,kT,kU,kV,kW,jb,jc,jd⟩:=nc.out.cl.box
   go_upto_region 13 with (fail)
   refine dO fun SJ Na=>?_
   have T7:=hide (show td w (w.heap.size+3) SJ (w.heap.size+2) w.heap.size (w.heap.size+1) (.slice B0 m0 d0) (.slice B1 m1 d1) (.slice B2 m2 d2) (.slice B3 m3 d3) (.string x4) (.int .i64 x5) (.slice A6 x6.length c6) (.slice A7 x7.length c7) (.slice A8 x8.length c8) (.bool x9) (.int .i64 x10) (.int .i64 x11) (.int .i64 x12) (.slice A0 x0.length c0) (.slice A1 x1.length c1) (.slice A2 x2.length c2) (.slice A3 x3.length c3) (.string x4) (.int .i64 x5) (.slice A6 x6.length c6) (.slice A7 x7.length c7) (.slice A8 x8.length c8) (.bool x9) (.int .i64 x10) (.int .i64 x11) (.int .i64 x12) [⟨9,1,(.slice B0 m0 d0),[],x0.map (fun x=>[Dat.str x])⟩,⟨109,3,(.slice B1 m1 d1),L1,x1.map cA.D⟩,⟨81,5,(.slice B2 m2 d2),L,x2.map cz.D⟩,⟨34,6,(.slice B3 m3 d3),[],x3.map cw.D⟩]from by rw[<-Na];exact T6.out.next HQ.out.1 mK.out HQ.out.2 3 (nc.out.cl.box.xg _))
   clear tf th nG nH nK nL nM nN nO nP nQ nR lp lu lx ot ou kN kO kP kQ kR kS kT kU kV kW jb jc jd
   clear Na HQ mK nc T6
   obtain⟨hlq,rB,j7,j8,j9,ka,kb,kf,kh,ki,kj,kk,ib,ic,ig⟩:=T7.out.sb
   obtain⟨hlb,hfb,kC,kD,kE,kF,kG,kH,kI,kJ,kK,kL,ix,iy,iz⟩:=T7.out.cl.box
   have tO:=hide (fp.te SJ 9 1)
   obtain⟨nw,om⟩:=Row.src (mq x6) (Row.bel (cE.trans T7.out.cl.bel (show cE SJ (SJ.alloc (.cells #[] 9))from bl)) IK.out)
   rw[aj]at om
   have sO:=hide om
   clear om
   go_wp2_with (at_builtin;refine fO rfl (.tmp 46) (.tmp 48) 24 rfl 9 is (.string ByteArray.empty) 1 16 Tryz.underlying24 his zs0 zs1 zs2 aF aF tO.out sO.out c6 rfl rfl (fun b _ h=>by cases h) bj aY ?_)
   intro v9 w9 oo qQ rC
   have HQ:=hide (kM qQ rC)
   have mK:=hide (show fp w9 9 1 v9 [] (x6.map (fun x=>[Dat.str x]))from oo)
   clear oo qQ rC tO sO
   clear hlq rB j7 j8 j9 ka kb kf kh ki kj kk ib ic ig hlb hfb kC kD kE kF kG kH kI kJ kK kL ix iy iz
   obtain⟨B6,m6,d6,rfl⟩:∃A9 n9 c9,v9=.slice A9 n9 c9:=by obtain⟨A9,c9,L9,wM,-⟩:=mK.out.ownRow;exact⟨_,_,_,wM⟩
   have nc:=hide (T7.out.on HQ.out.1)
   obtain⟨tf,th,nG,nH,nK,nL,nM,nN,nO,nP,nQ,nR,lp,lu,lx⟩:=nc.out.sb
   obtain⟨ot,ou,kN,kO,kP,kQ,kR,kS,kT,kU,kV,kW,jb,jc,jd⟩:=nc.out.cl.box
   go_upto_region 14 with (fail)
   refine dO fun SK Nb=>?_
   have T8:=hide (show td w (w.heap.size+3) SK (w.heap.size+2) w.heap.size (w.heap.size+1) (.slice B0 m0 d0) (.slice B1 m1 d1) (.slice B2 m2 d2) (.slice B3 m3 d3) (.string x4) (.int .i64 x5) (.slice B6 m6 d6) (.slice A7 x7.length c7) (.slice A8 x8.length c8) (.bool x9) (.int .i64 x10) (.int .i64 x11) (.int .i64 x12) (.slice A0 x0.length c0) (.slice A1 x1.length c1) (.slice A2 x2.length c2) (.slice A3 x3.length c3) (.string x4) (.int .i64 x5) (.slice A6 x6.length c6) (.slice A7 x7.length c7) (.slice A8 x8.length c8) (.bool x9) (.int .i64 x10) (.int .i64 x11) (.int .i64 x12) [⟨9,1,(.slice B0 m0 d0),[],x0.map (fun x=>[Dat.str x])⟩,⟨109,3,(.slice B1 m1 d1),L1,x1.map cA.D⟩,⟨81,5,(.slice B2 m2 d2),L,x2.map cz.D⟩,⟨34,6,(.slice B3 m3 d3),[],x3.map cw.D⟩,⟨9,1,(.slice B6 m6 d6),[],x6.map (fun x=>[Dat.str x])⟩]from by rw[<-Nb];exact T7.out.next HQ.out.1 mK.out HQ.out.2 6 (nc.out.cl.box.wv _))
   clear tf th nG nH nK nL nM nN nO nP nQ nR lp lu lx ot ou kN kO kP kQ kR kS kT kU kV kW jb jc jd
   clear Nb HQ mK nc T7
   obtain⟨hlq,rB,j7,j8,j9,ka,kb,kf,kh,ki,kj,kk,ib,ic,ig⟩:=T8.out.sb
   obtain⟨hlb,hfb,kC,kD,kE,kF,kG,kH,kI,kJ,kK,kL,ix,iy,iz⟩:=T8.out.cl.box
   have tO:=hide (fp.te SK 9 1)
   obtain⟨nw,om⟩:=Row.src (mq x7) (Row.bel (cE.trans T8.out.cl.bel (show cE SK (SK.alloc (.cells #[] 9))from bl)) HR7.out)
   rw[aj]at om
   have sO:=hide om
   clear om
   go_wp2_with (at_builtin;refine fO rfl (.tmp 51) (.tmp 53) 24 rfl 9 is (.string ByteArray.empty) 1 16 Tryz.underlying24 his zs0 zs1 zs2 aF aF tO.out sO.out c7 rfl rfl (fun b _ h=>by cases h) bj aY ?_)
   intro v9 w9 oo qQ rC
   have HQ:=hide (kM qQ rC)
   have mK:=hide (show fp w9 9 1 v9 [] (x7.map (fun x=>[Dat.str x]))from oo)
   clear oo qQ rC tO sO
   clear hlq rB j7 j8 j9 ka kb kf kh ki kj kk ib ic ig hlb hfb kC kD kE kF kG kH kI kJ kK kL ix iy iz
   obtain⟨B7,m7,d7,rfl⟩:∃A9 n9 c9,v9=.slice A9 n9 c9:=by obtain⟨A9,c9,L9,wM,-⟩:=mK.out.ownRow;exact⟨_,_,_,wM⟩
   have nc:=hide (T8.out.on HQ.out.1)
   obtain⟨tf,th,nG,nH,nK,nL,nM,nN,nO,nP,nQ,nR,lp,lu,lx⟩:=nc.out.sb
   obtain⟨ot,ou,kN,kO,kP,kQ,kR,kS,kT,kU,kV,kW,jb,jc,jd⟩:=nc.out.cl.box
   go_upto_region 15 with (fail)
   refine dO fun SL Nc=>?_
   have T9:=hide (show td w (w.heap.size+3) SL (w.heap.size+2) w.heap.size (w.heap.size+1) (.slice B0 m0 d0) (.slice B1 m1 d1) (.slice B2 m2 d2) (.slice B3 m3 d3) (.string x4) (.int .i64 x5) (.slice B6 m6 d6) (.slice B7 m7 d7) (.slice A8 x8.length c8) (.bool x9) (.int .i64 x10) (.int .i64 x11) (.int .i64 x12) (.slice A0 x0.length c0) (.slice A1 x1.length c1) (.slice A2 x2.length c2) (.slice A3 x3.length c3) (.string x4) (.int .i64 x5) (.slice A6 x6.length c6) (.slice A7 x7.length c7) (.slice A8 x8.length c8) (.bool x9) (.int .i64 x10) (.int .i64 x11) (.int .i64 x12) [⟨9,1,(.slice B0 m0 d0),[],x0.map (fun x=>[Dat.str x])⟩,⟨109,3,(.slice B1 m1 d1),L1,x1.map cA.D⟩,⟨81,5,(.slice B2 m2 d2),L,x2.map cz.D⟩,⟨34,6,(.slice B3 m3 d3),[],x3.map cw.D⟩,⟨9,1,(.slice B6 m6 d6),[],x6.map (fun x=>[Dat.str x])⟩,⟨9,1,(.slice B7 m7 d7),[],x7.map (fun x=>[Dat.str x])⟩]from by rw[<-Nc];exact T8.out.next HQ.out.1 mK.out HQ.out.2 7 (nc.out.cl.box.Nd _))
   clear tf th nG nH nK nL nM nN nO nP nQ nR lp lu lx ot ou kN kO kP kQ kR kS kT kU kV kW jb jc jd
   clear Nc HQ mK nc T8
   obtain⟨hlq,rB,j7,j8,j9,ka,kb,kf,kh,ki,kj,kk,ib,ic,ig⟩:=T9.out.sb
   obtain⟨hlb,hfb,kC,kD,kE,kF,kG,kH,kI,kJ,kK,kL,ix,iy,iz⟩:=T9.out.cl.box
   have tO:=hide (fp.te SL 76 2)
   obtain⟨nw,om⟩:=Row.src (EB x8) (Row.bel (cE.trans T9.out.cl.bel (show cE SL (SL.alloc (.cells #[] 76))from bl)) SE.out)
   rw[aj]at om
   have sO:=hide om
   clear om
   go_wp2_with (at_builtin;refine fO rfl (.tmp 56) (.tmp 58) 28 rfl 76 ia (.agg #[.int .i64 0,.int .i64 0]) 2 16 Tryz.underlying28 hia za0 za1 za2 aF aF tO.out sO.out c8 rfl rfl (fun b _ h=>by cases h) bj aY ?_)
   intro v9 w9 oo qQ rC
   have HQ:=hide (kM qQ rC)
   have mK:=hide (show fp w9 76 2 v9 [] (x8.map cJ.D)from oo)
   clear oo qQ rC tO sO
   clear hlq rB j7 j8 j9 ka kb kf kh ki kj kk ib ic ig hlb hfb kC kD kE kF kG kH kI kJ kK kL ix iy iz
   obtain⟨B8,m8,d8,rfl⟩:∃A9 n9 c9,v9=.slice A9 n9 c9:=by obtain⟨A9,c9,L9,wM,-⟩:=mK.out.ownRow;exact⟨_,_,_,wM⟩
   have nc:=hide (T9.out.on HQ.out.1)
   obtain⟨tf,th,nG,nH,nK,nL,nM,nN,nO,nP,nQ,nR,lp,lu,lx⟩:=nc.out.sb
   obtain⟨ot,ou,kN,kO,kP,kQ,kR,kS,kT,kU,kV,kW,jb,jc,jd⟩:=nc.out.cl.box
   go_upto_region 16 with (fail)
   refine dO fun Dr EC=>?_
   have T10:=hide (show td w (w.heap.size+3) Dr (w.heap.size+2) w.heap.size (w.heap.size+1) (.slice B0 m0 d0) (.slice B1 m1 d1) (.slice B2 m2 d2) (.slice B3 m3 d3) (.string x4) (.int .i64 x5) (.slice B6 m6 d6) (.slice B7 m7 d7) (.slice B8 m8 d8) (.bool x9) (.int .i64 x10) (.int .i64 x11) (.int .i64 x12) (.slice A0 x0.length c0) (.slice A1 x1.length c1) (.slice A2 x2.length c2) (.slice A3 x3.length c3) (.string x4) (.int .i64 x5) (.slice A6 x6.length c6) (.slice A7 x7.length c7) (.slice A8 x8.length c8) (.bool x9) (.int .i64 x10) (.int .i64 x11) (.int .i64 x12) [⟨9,1,(.slice B0 m0 d0),[],x0.map (fun x=>[Dat.str x])⟩,⟨109,3,(.slice B1 m1 d1),L1,x1.map cA.D⟩,⟨81,5,(.slice B2 m2 d2),L,x2.map cz.D⟩,⟨34,6,(.slice B3 m3 d3),[],x3.map cw.D⟩,⟨9,1,(.slice B6 m6 d6),[],x6.map (fun x=>[Dat.str x])⟩,⟨9,1,(.slice B7 m7 d7),[],x7.map (fun x=>[Dat.str x])⟩,⟨76,2,(.slice B8 m8 d8),[],x8.map cJ.D⟩]from by rw[<-EC];exact T9.out.next HQ.out.1 mK.out HQ.out.2 8 (nc.out.cl.box.Nf _))
   clear tf th nG nH nK nL nM nN nO nP nQ nR lp lu lx ot ou kN kO kP kQ kR kS kT kU kV kW jb jc jd
   clear EC HQ mK nc T9
   have Ng:=hide T10.out.rb
   obtain⟨hlq,rB,j7,j8,j9,ka,kb,kf,kh,ki,kj,kk,ib,ic,ig⟩:=T10.out.sb
   obtain⟨hlb,hfb,kC,kD,kE,kF,kG,kH,kI,kJ,kK,kL,ix,iy,iz⟩:=T10.out.cl.box
   refine wp_region_lit ?_
   refine wpList_plain rfl fun K hK=>?_
   go_simp
   refine hK _ _ ?_
   refine wpList_store_mid rfl 30 (.tmp 2) (.tmp 61) rfl (w.heap.size+1) 0 #[.slice B0 m0 d0,.slice B1 m1 d1,.slice B2 m2 d2,.slice B3 m3 d3,.string x4,.int .i64 x5,.slice B6 m6 d6,.slice B7 m7 d7,.slice B8 m8 d8,.bool x9,.int .i64 x10,.int .i64 x11,.int .i64 x12] rfl rfl Ng.out.there aC bm ?_
   refine uM fun wz hwz=>?_
   replace hwz:wz=(((((((((((((Dr.setCell ⟨w.heap.size+1,0,none⟩ (.slice B0 m0 d0)).setCell ⟨w.heap.size+1,1,none⟩ (.slice B1 m1 d1)).setCell ⟨w.heap.size+1,2,none⟩ (.slice B2 m2 d2)).setCell ⟨w.heap.size+1,3,none⟩ (.slice B3 m3 d3)).setCell ⟨w.heap.size+1,4,none⟩ (.string x4)).setCell ⟨w.heap.size+1,5,none⟩ (.int .i64 x5)).setCell ⟨w.heap.size+1,6,none⟩ (.slice B6 m6 d6)).setCell ⟨w.heap.size+1,7,none⟩ (.slice B7 m7 d7)).setCell ⟨w.heap.size+1,8,none⟩ (.slice B8 m8 d8)).setCell ⟨w.heap.size+1,9,none⟩ (.bool x9)).setCell ⟨w.heap.size+1,10,none⟩ (.int .i64 x10)).setCell ⟨w.heap.size+1,11,none⟩ (.int .i64 x11)).setCell ⟨w.heap.size+1,12,none⟩ (.int .i64 x12)):=hwz
   have hsame:∀y,(w.heap.size+1)≠y->wz.heap[y]?=Dr.heap[y]?:=fun y hy=>by rw[hwz,eX 12 _ hy,eX 11 _ hy,eX 10 _ hy,eX 9 _ hy,eX 8 _ hy,eX 7 _ hy,eX 6 _ hy,eX 5 _ hy,eX 4 _ hy,eX 3 _ hy,eX 2 _ hy,eX 1 _ hy,eX 0 _ hy]
   have hsz:wz.heap.size=Dr.heap.size:=by rw[hwz];simp
   have PZ:SB wz (w.heap.size+1) (.slice B0 m0 d0) (.slice B1 m1 d1) (.slice B2 m2 d2) (.slice B3 m3 d3) (.string x4) (.int .i64 x5) (.slice B6 m6 d6) (.slice B7 m7 d7) (.slice B8 m8 d8) (.bool x9) (.int .i64 x10) (.int .i64 x11) (.int .i64 x12):=by rw[hwz];exact ((((((((((((Ng.out.Dn _).Dq _).zT _).xg _).EA _).Ze _).wv _).Nd _).Nf _).Zf _).Nh _).Ni _).Nj _
   have hbz:cE w wz:=by rw[hwz];exact (Below.setCell (Below.setCell (Below.setCell (Below.setCell (Below.setCell (Below.setCell (Below.setCell (Below.setCell (Below.setCell (Below.setCell (Below.setCell (Below.setCell (Below.setCell T10.out.cl.bel (show w.heap.size<=w.heap.size+1 by omega) _) (show w.heap.size<=w.heap.size+1 by omega) _) (show w.heap.size<=w.heap.size+1 by omega) _) (show w.heap.size<=w.heap.size+1 by omega) _) (show w.heap.size<=w.heap.size+1 by omega) _) (show w.heap.size<=w.heap.size+1 by omega) _) (show w.heap.size<=w.heap.size+1 by omega) _) (show w.heap.size<=w.heap.size+1 by omega) _) (show w.heap.size<=w.heap.size+1 by omega) _) (show w.heap.size<=w.heap.size+1 by omega) _) (show w.heap.size<=w.heap.size+1 by omega) _) (show w.heap.size<=w.heap.size+1 by omega) _) (show w.heap.size<=w.heap.size+1 by omega) _)
   have hez:mv w.heap.size wz [⟨9,1,(.slice B0 m0 d0),[],x0.map (fun x=>[Dat.str x])⟩,⟨109,3,(.slice B1 m1 d1),L1,x1.map cA.D⟩,⟨81,5,(.slice B2 m2 d2),L,x2.map cz.D⟩,⟨34,6,(.slice B3 m3 d3),[],x3.map cw.D⟩,⟨9,1,(.slice B6 m6 d6),[],x6.map (fun x=>[Dat.str x])⟩,⟨9,1,(.slice B7 m7 d7),[],x7.map (fun x=>[Dat.str x])⟩,⟨76,2,(.slice B8 m8 d8),[],x8.map cJ.D⟩]:=(T10.out.cl.uD.keep aB (fun e he x hx=>hsame x (by have:=T10.out.cl.uD.low e he x hx;omega))).weak aB
   clear hlq rB j7 j8 j9 ka kb kf kh ki kj kk ib ic ig hlb hfb kC kD kE kF kG kH kI kJ kK kL ix iy iz
   obtain⟨-,-,e0,e1,e2,e3,e4,e5,e6,e7,e8,e9,e10,e11,e12⟩:=PZ
   clear hwz Ng hsame hsz
   refine wpList_nil ?_
   go_simp
   rename_i hKr
   refine hKr _ _ ?_
   clear hKr hK
   refine wp_ret ?_
   exact bodyPost_ret (v:=.agg #[.slice B0 m0 d0,.slice B1 m1 d1,.slice B2 m2 d2,.slice B3 m3 d3,.string x4,.int .i64 x5,.slice B6 m6 d6,.slice B7 m7 d7,.slice B8 m8 d8,.bool x9,.int .i64 x10,.int .i64 x11,.int .i64 x12]) (by simp[results,Tryz.results29,e0,e1,e2,e3,e4,e5,e6,e7,e8,e9,e10,e11,e12,go_sem];try rfl) rfl ⟨_,_,_,_,_,_,_,_,_,_,_,_,_,_,rfl,hez,hbz⟩
end Go.Proofs.YtjngkknbpfgdcaaGreatDoor
