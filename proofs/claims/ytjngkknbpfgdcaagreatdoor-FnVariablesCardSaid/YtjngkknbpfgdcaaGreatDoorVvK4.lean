import Derived.Test.YtjngkknbpfgdcaaGreatDoorVvK0
set_option linter.unusedVariables false
set_option linter.unusedSimpArgs false
set_option maxRecDepth 100000
set_option maxHeartbeats 8000000
namespace Go.Proofs.YtjngkknbpfgdcaaGreatDoor
open Go.RowKit Tryz
theorem Da:Qg 29:=by
 intro x0 x1 x2 x3 x4 x5 x6 x7 x8 x9 F G Z S w vs hv Mk
 obtain⟨A0,c0,A1,c1,A2,c2,A3,c3,A6,c6,A7,c7,A8,c8,rfl,g0,g1,g2,g3,g4,g5,g6,g7,g8,-,g10,g11,g12⟩:=O.gK hv
 have xU:=I g0
 have XW:=g0.1
 have DG:=g0.2.1
 simp only[ar]at XW
 unfold maxLen at DG
 have qv:=I g1
 have dS:=g1.1
 have XX:=g1.2.1
 simp only[ar]at dS
 unfold maxLen at XX
 have kp:=I g2
 have mu:=g2.1
 have qw:=g2.2.1
 simp only[ar]at mu
 unfold maxLen at qw
 have Gm:=I g3
 have yN:=g3.1
 have vD:=g3.2.1
 simp only[ar]at yN
 unfold maxLen at vD
 have GW:=I g6
 have D1:=g6.1
 have WQ:=g6.2.1
 simp only[ar]at D1
 unfold maxLen at WQ
 have Vp:=I g7
 have hl7:=g7.1
 have hm7:=g7.2.1
 simp only[ar]at hl7
 unfold maxLen at hm7
 have OW:=I g8
 have hl8:=g8.1
 have hm8:=g8.2.1
 simp only[ar]at hl8
 unfold maxLen at hm8
 rw[O.iM]at Mk
 simp only[Y.Gf,Y.ln,ar]at Mk
 have Xe:x0.length<=1048576:=aF
 have hx1:x1.length<=1048576:=aF
 have hx2:x2.length<=1048576:=aF
 have XY:x3.length<=1048576:=aF
 have hx6:x6.length<=1048576:=aF
 have hx7:x7.length<=1048576:=aF
 have hx8:x8.length<=1048576:=aF
 have HFR:=I (show ∀(k:Nat) (h:k<x1.length),x1[k].fl.length<=1048576 from fun k h=>by have:=Fs x1 k h;omega)
 have HFO:=I (show ∀(k:Nat) (h:k<x2.length),x2[k].its.length+x2[k].fO.length<=1048576 from fun k h=>by have:=Fq x2 k h;omega)
 clear Mk hv g0 g1 g2 g3 g6 g7 g8
 obtain⟨is,Qa,Qb,Qc,Qd⟩:=info_parts Bg
 obtain⟨iv,ye,DN,DO,DP⟩:=info_parts o9
 obtain⟨ia,hia,za0,za1,za2⟩:=info_parts KF
 obtain⟨io,hio,zo0,zo1,zo2⟩:=info_parts AX
 go_enter func29,ntmps29
 go_upto_region 2 with (fail)
 refine cZ fun w2 nn=>?_
 replace nn:((w.alloc (.cells #[.slice A0 x0.length c0,.slice A1 x1.length c1,.slice A2 x2.length c2,.slice A3 x3.length c3,.string x4,.int .i64 x5,.slice A6 x6.length c6,.slice A7 x7.length c7,.slice A8 x8.length c8,.bool x9,.int .i64 F,.int .i64 G,.int .i64 Z] 30)).alloc (.cells #[.slice none 0 0,.slice none 0 0,.slice none 0 0,.slice none 0 0,.string ByteArray.empty,.int .i64 0,.slice none 0 0,.slice none 0 0,.slice none 0 0,.bool false,.int .i64 0,.int .i64 0,.int .i64 0] 30)).alloc (.cells #[.slice A0 x0.length c0,.slice A1 x1.length c1,.slice A2 x2.length c2,.slice A3 x3.length c3,.string x4,.int .i64 x5,.slice A6 x6.length c6,.slice A7 x7.length c7,.slice A8 x8.length c8,.bool x9,.int .i64 F,.int .i64 G,.int .i64 Z] 30)=w2:=nn
 have gC:U w w2:=by rw[<-nn];exact bl
 have xX:w2.heap.size=w.heap.size+3:=by rw[<-nn];simp
 have SQ:SB w2 w.heap.size (.slice A0 x0.length c0) (.slice A1 x1.length c1) (.slice A2 x2.length c2) (.slice A3 x3.length c3) (.string x4) (.int .i64 x5) (.slice A6 x6.length c6) (.slice A7 x7.length c7) (.slice A8 x8.length c8) (.bool x9) (.int .i64 F) (.int .i64 G) (.int .i64 Z):=by rw[<-nn];first | exact (SB.new w 30).on bl | trace_state
 have SR:SB w2 (w.heap.size+1) (.slice none 0 0) (.slice none 0 0) (.slice none 0 0) (.slice none 0 0) (.string ByteArray.empty) (.int .i64 0) (.slice none 0 0) (.slice none 0 0) (.slice none 0 0) (.bool false) (.int .i64 0) (.int .i64 0) (.int .i64 0):=by rw[<-nn];first | (have h:=(SB.new (w.alloc (.cells #[.slice A0 x0.length c0,.slice A1 x1.length c1,.slice A2 x2.length c2,.slice A3 x3.length c3,.string x4,.int .i64 x5,.slice A6 x6.length c6,.slice A7 x7.length c7,.slice A8 x8.length c8,.bool x9,.int .i64 F,.int .i64 G,.int .i64 Z] 30)) 30 (v0:=.slice none 0 0) (v1:=.slice none 0 0) (v2:=.slice none 0 0) (v3:=.slice none 0 0) (v4:=.string ByteArray.empty) (v5:=.int .i64 0) (v6:=.slice none 0 0) (v7:=.slice none 0 0) (v8:=.slice none 0 0) (v9:=.bool false) (v10:=.int .i64 0) (v11:=.int .i64 0) (v12:=.int .i64 0));rw[World.size_alloc]at h;exact h.on bl) | trace_state
 have SBB:SB w2 (w.heap.size+2) (.slice A0 x0.length c0) (.slice A1 x1.length c1) (.slice A2 x2.length c2) (.slice A3 x3.length c3) (.string x4) (.int .i64 x5) (.slice A6 x6.length c6) (.slice A7 x7.length c7) (.slice A8 x8.length c8) (.bool x9) (.int .i64 F) (.int .i64 G) (.int .i64 Z):=by rw[<-nn];first | (have h:=SB.new ((w.alloc (.cells #[.slice A0 x0.length c0,.slice A1 x1.length c1,.slice A2 x2.length c2,.slice A3 x3.length c3,.string x4,.int .i64 x5,.slice A6 x6.length c6,.slice A7 x7.length c7,.slice A8 x8.length c8,.bool x9,.int .i64 F,.int .i64 G,.int .i64 Z] 30)).alloc (.cells #[.slice none 0 0,.slice none 0 0,.slice none 0 0,.slice none 0 0,.string ByteArray.empty,.int .i64 0,.slice none 0 0,.slice none 0 0,.slice none 0 0,.bool false,.int .i64 0,.int .i64 0,.int .i64 0] 30)) 30 (v0:=.slice A0 x0.length c0) (v1:=.slice A1 x1.length c1) (v2:=.slice A2 x2.length c2) (v3:=.slice A3 x3.length c3) (v4:=.string x4) (v5:=.int .i64 x5) (v6:=.slice A6 x6.length c6) (v7:=.slice A7 x7.length c7) (v8:=.slice A8 x8.length c8) (v9:=.bool x9) (v10:=.int .i64 F) (v11:=.int .i64 G) (v12:=.int .i64 Z);simp only[World.size_alloc]at h;exact h) | trace_state
 have T2:=I (show tW w (w.heap.size+3) w2 (w.heap.size+2) w.heap.size (w.heap.size+1) (.slice A0 x0.length c0) (.slice A1 x1.length c1) (.slice A2 x2.length c2) (.slice A3 x3.length c3) (.string x4) (.int .i64 x5) (.slice A6 x6.length c6) (.slice A7 x7.length c7) (.slice A8 x8.length c8) (.bool x9) (.int .i64 F) (.int .i64 G) (.int .i64 Z) (.slice A0 x0.length c0) (.slice A1 x1.length c1) (.slice A2 x2.length c2) (.slice A3 x3.length c3) (.string x4) (.int .i64 x5) (.slice A6 x6.length c6) (.slice A7 x7.length c7) (.slice A8 x8.length c8) (.bool x9) (.int .i64 F) (.int .i64 G) (.int .i64 Z) []from⟨⟨SBB,gL.nil _ _,gC,by omega,by omega,by omega⟩,SQ,SR,by omega,by omega,by omega,by omega,by omega⟩)
 clear nn gC xX SQ SR SBB
 obtain⟨tj,tl,lx,lz,lA,lB,lC,lD,lE,lF,lG,lH,ji,jj,jk⟩:=T2.out.sb
 obtain⟨lP,l4,gM,gN,gH,gO,gP,gQ,gR,gS,gT,gU,fu,fv,fw⟩:=T2.out.cl.box
 have py:=I (dK.tV w2 9 1)
 obtain⟨nw,mi⟩:=Row.src (mX x0) (Row.de (U.trans T2.out.cl.de (show U w2 (w2.alloc (.cells #[] 9))from bl)) xU.out)
 rw[ar]at mi
 have sv:=I mi
 clear mi
 go_wp2_with (at_builtin;refine fg rfl (.tmp 7) (.tmp 9) 24 rfl 9 is (.string ByteArray.empty) 1 16 underlying24 Qa Qb Qc Qd aI aI py.out sv.out c0 rfl rfl (fun b _ h=>by cases h) bp bf ?_)
 intro v9 w9 mq mr lp
 have HQ:=I (kQ mr lp)
 have ng:=I (show dK w9 9 1 v9 [] (x0.map (fun x=>[Y.str x]))from mq)
 clear mq mr lp py sv
 clear tj tl lx lz lA lB lC lD lE lF lG lH ji jj jk lP l4 gM gN gH gO gP gQ gR gS gT gU fu fv fw
 obtain⟨B0,m0,d0,rfl⟩:∃A9 n9 c9,v9=.slice A9 n9 c9:=by obtain⟨A9,c9,L9,tJ,-⟩:=ng.out.ownRow;exact⟨_,_,_,tJ⟩
 have nM:=I (T2.out.on HQ.out.1)
 obtain⟨tY,tZ,oo,oq,ou,ov,ow,ox,oy,oz,oA,oB,lT,lU,lV⟩:=nM.out.sb
 obtain⟨oR,oS,kR,kS,kT,kU,kV,kW,kX,kY,kZ,lf,jA,jB,jC⟩:=nM.out.cl.box
 go_upto_region 3 with (fail)
 refine cZ fun wq3 Ql=>?_
 have T3:=I (show tW w (w.heap.size+3) wq3 (w.heap.size+2) w.heap.size (w.heap.size+1) (.slice B0 m0 d0) (.slice A1 x1.length c1) (.slice A2 x2.length c2) (.slice A3 x3.length c3) (.string x4) (.int .i64 x5) (.slice A6 x6.length c6) (.slice A7 x7.length c7) (.slice A8 x8.length c8) (.bool x9) (.int .i64 F) (.int .i64 G) (.int .i64 Z) (.slice A0 x0.length c0) (.slice A1 x1.length c1) (.slice A2 x2.length c2) (.slice A3 x3.length c3) (.string x4) (.int .i64 x5) (.slice A6 x6.length c6) (.slice A7 x7.length c7) (.slice A8 x8.length c8) (.bool x9) (.int .i64 F) (.int .i64 G) (.int .i64 Z) [⟨9,1,(.slice B0 m0 d0),[],x0.map (fun x=>[Y.str x])⟩]from by rw[<-Ql];exact T2.out.next HQ.out.1 ng.out HQ.out.2 0 (nM.out.cl.box.yR _))
 clear tY tZ oo oq ou ov ow ox oy oz oA oB lT lU lV oR oS kR kS kT kU kV kW kX kY kZ lf jA jB jC
 clear Ql HQ ng nM T2
 obtain⟨tj,tl,lx,lz,lA,lB,lC,lD,lE,lF,lG,lH,ji,jj,jk⟩:=T3.out.sb
 obtain⟨lP,l4,gM,gN,gH,gO,gP,gQ,gR,gS,gT,gU,fu,fv,fw⟩:=T3.out.cl.box
 go_upto_region 4 with (go_at_call 84;refine (Fp x1 S _ _ _ (Row.de T3.out.cl.de qv.out) hx1 HFR.out).mono ?_;rintro e w9 ⟨v9,L1,rfl,mq,Ub,qz⟩;have ng:=I mq;have XZ:=I Ub;have Ml:=I qz;clear mq Ub qz;obtain⟨B1,m1,d1,rfl⟩:∃A9 n9 c9,v9=.slice A9 n9 c9:=bN;have nM:=I (T3.out.on Ml.out);obtain⟨oR,oS,kR,kS,kT,kU,kV,kW,kX,kY,kZ,lf,jA,jB,jC⟩:=nM.out.cl.box)
 clear tj tl lx lz lA lB lC lD lE lF lG lH ji jj jk lP l4 gM gN gH gO gP gQ gR gS gT gU fu fv fw
 refine cZ fun wq4 Qm=>?_
 have T4:=I (show tW w (w.heap.size+3) wq4 (w.heap.size+2) w.heap.size (w.heap.size+1) (.slice B0 m0 d0) (.slice B1 m1 d1) (.slice A2 x2.length c2) (.slice A3 x3.length c3) (.string x4) (.int .i64 x5) (.slice A6 x6.length c6) (.slice A7 x7.length c7) (.slice A8 x8.length c8) (.bool x9) (.int .i64 F) (.int .i64 G) (.int .i64 Z) (.slice A0 x0.length c0) (.slice A1 x1.length c1) (.slice A2 x2.length c2) (.slice A3 x3.length c3) (.string x4) (.int .i64 x5) (.slice A6 x6.length c6) (.slice A7 x7.length c7) (.slice A8 x8.length c8) (.bool x9) (.int .i64 F) (.int .i64 G) (.int .i64 Z) [⟨9,1,(.slice B0 m0 d0),[],x0.map (fun x=>[Y.str x])⟩,⟨109,3,(.slice B1 m1 d1),L1,x1.map cw.D⟩]from by rw[<-Qm];exact T3.out.next Ml.out ng.out XZ.out 1 (nM.out.cl.box.xY _))
 clear Qm Ml ng XZ nM T3 oR oS kR kS kT kU kV kW kX kY kZ lf jA jB jC
 obtain⟨tj,tl,lx,lz,lA,lB,lC,lD,lE,lF,lG,lH,ji,jj,jk⟩:=T4.out.sb
 obtain⟨lP,l4,gM,gN,gH,gO,gP,gQ,gR,gS,gT,gU,fu,fv,fw⟩:=T4.out.cl.box
 go_upto_region 5 with (fail)
 clear tj tl lx lz lA lB lC lD lE lF lG lH ji jj jk lP l4 gM gN gH gO gP gQ gR gS gT gU fu fv fw
 refine cZ fun wq5 Qn=>?_
 have T5:=I (show tW w (w.heap.size+3) wq5 (w.heap.size+2) w.heap.size (w.heap.size+1) (.slice B0 m0 d0) (.slice B1 m1 d1) (.slice none 0 0) (.slice A3 x3.length c3) (.string x4) (.int .i64 x5) (.slice A6 x6.length c6) (.slice A7 x7.length c7) (.slice A8 x8.length c8) (.bool x9) (.int .i64 F) (.int .i64 G) (.int .i64 Z) (.slice A0 x0.length c0) (.slice A1 x1.length c1) (.slice A2 x2.length c2) (.slice A3 x3.length c3) (.string x4) (.int .i64 x5) (.slice A6 x6.length c6) (.slice A7 x7.length c7) (.slice A8 x8.length c8) (.bool x9) (.int .i64 F) (.int .i64 G) (.int .i64 Z) [⟨9,1,(.slice B0 m0 d0),[],x0.map (fun x=>[Y.str x])⟩,⟨109,3,(.slice B1 m1 d1),L1,x1.map cw.D⟩,⟨81,5,(.slice none 0 0),[],[]⟩]from by rw[<-Qn];exact T4.out.next (U.refl _) (dK.nil _ _ _) (fun x hx=>(dK.xZ hx).elim) 2 (T4.out.cl.box.rV _))
 clear Qn T4
 obtain⟨tj,tl,lx,lz,lA,lB,lC,lD,lE,lF,lG,lH,ji,jj,jk⟩:=T5.out.sb
 obtain⟨lP,l4,gM,gN,gH,gO,gP,gQ,gR,gS,gT,gU,fu,fv,fw⟩:=T5.out.cl.box
 go_wp2_with (fail)
 clear tj tl lx lz lA lB lC lD lE lF lG lH ji jj jk lP l4 gM gN gH gO gP gQ gR gS gT gU fu fv fw
 go_loopw [20] (fun iv wr=>∃(i:Nat) (v:Value) (L:List Nat),iv=.int .i64 i/\i<=x2.length/\Hid (tW w (w.heap.size+3) wr (w.heap.size+2) w.heap.size (w.heap.size+1) (.slice B0 m0 d0) (.slice B1 m1 d1) v (.slice A3 x3.length c3) (.string x4) (.int .i64 x5) (.slice A6 x6.length c6) (.slice A7 x7.length c7) (.slice A8 x8.length c8) (.bool x9) (.int .i64 F) (.int .i64 G) (.int .i64 Z) (.slice A0 x0.length c0) (.slice A1 x1.length c1) (.slice A2 x2.length c2) (.slice A3 x3.length c3) (.string x4) (.int .i64 x5) (.slice A6 x6.length c6) (.slice A7 x7.length c7) (.slice A8 x8.length c8) (.bool x9) (.int .i64 F) (.int .i64 G) (.int .i64 Z) [⟨9,1,(.slice B0 m0 d0),[],x0.map (fun x=>[Y.str x])⟩,⟨109,3,(.slice B1 m1 d1),L1,x1.map cw.D⟩,⟨81,5,v,L,(x2.take i).map cr.D⟩])) (fun iv _=>x2.length - (intOf iv).toNat)
 case atStart=>exact⟨0,_,[],rfl,Nat.zero_le _,I (by have h:=T5.out;simpa only[List.take_zero,List.map_nil]using h)⟩
 case round =>
  obtain⟨i,v,L,rfl,hi,HT⟩:=hrel
  clear T5
  by_cases h:i<x2.length
  ·
   skip
   have Pw:decide ((i:Int)<(x2.length:Int))=true:=aH
   have hdn:decide (i<x2.length)=true:=by simp[h]
   have dX:=HT.out.cl.de
   have jh:(0:Int)<=(i:Int):=aF
   have oQ:(i:Int)<(x2.length:Int):=aF
   (obtain⟨b1,o1,cz,cD,cE,cB,cF,l8,iz,jG,jD,gb,dS,gy,gF,kP,eN,fi,eO,ed,iF,fD,fE,fG,fK,fN⟩:=cr.el kp.out i h dX;subst gb)
   have Mm:=HFO.out i h
   rw[gF.out]at Mm
   simp only[cr.its,cr.fO]at Mm
   have ak0:=ed.out.1
   have ak1:=ed.out.2.1
   simp only[ar]at ak0
   unfold maxLen at ak1
   have ak2:=iF.out.1
   have ak3:=iF.out.2.1
   simp only[ar]at ak2
   unfold maxLen at ak3
   go_upto_region 8 with (fail)
   refine cZ fun wA Ue=>?_
   have KE:U wr wA:=by rw[<-Ue];exact bl
   have OA:=I (show OB wA wr.heap.size (.int .i64 cz) (.int .i64 cD) (.int .i64 cE) (.slice l8 cB.length iz) (.slice jG cF.length jD)from by rw[<-Ue];first | exact OB.new _ _ | exact (((((OB.new _ _).yR _).xY _).rV _).rT _).CZ _)
   have hzA:wr.heap.size<wA.heap.size:=OA.out.1
   clear Ue
   obtain⟨yM,aa3,q0,q1,q2,q3,q4⟩:=OA.out
   have py:=I (dK.tV wA 34 6)
   obtain⟨nw,mi⟩:=Row.src (tT cB) (Row.de (U.trans dX (U.trans KE (show U wA (wA.alloc (.cells #[] 34))from bl))) ed.out)
   rw[ar]at mi
   have sv:=I mi
   clear mi
   go_wp2_with (at_builtin;refine fg rfl (.tmp 24) (.tmp 26) 27 rfl 34 iv (.agg #[.int .i64 0,.int .i64 0,.int .i64 0,.string ByteArray.empty,.int .i64 0,.int .i64 0]) 6 56 underlying27 ye DN DO DP aI aI py.out sv.out iz rfl rfl (fun b _ h=>by cases h) bp bf ?_)
   intro vI wI mq mr lp
   have HQI:=I (kQ mr lp)
   have HOI:=I (show dK wI 34 6 vI [] (cB.map R.D)from mq)
   clear mq mr lp py sv yM aa3 q0 q1 q2 q3 q4
   obtain⟨AI,nI,dI,rfl⟩:∃A9 n9 c9,vI=.slice A9 n9 c9:=by obtain⟨A9,c9,L9,tJ,-⟩:=HOI.out.ownRow;exact⟨_,_,_,tJ⟩
   have PA:=I (OA.out.on HQI.out.1)
   obtain⟨yM,aa3,q0,q1,q2,q3,q4⟩:=PA.out
   go_upto_region 9 with (fail)
   refine cZ fun yI hyI=>?_
   have OI:=I (show OB yI wr.heap.size (.int .i64 cz) (.int .i64 cD) (.int .i64 cE) (.slice AI nI dI) (.slice jG cF.length jD)from by rw[<-hyI];exact PA.out.rT _)
   have hbI:U wr yI:=by rw[<-hyI];exact Below.setCell (U.trans KE HQI.out.1) (Nat.le_refl _) _
   have Vq:=I (show dK yI 34 6 (.slice AI nI dI) [] (cB.map R.D)from by rw[<-hyI];exact HOI.out.keep aJ (fun x hx=>dY 3 _ (fun e=>by have:=HQI.out.2 x hx;omega)))
   have hzI:wI.heap.size<=yI.heap.size:=by rw[<-hyI];simp
   have hsI:=HQI.out.1.size
   clear hyI PA yM aa3 q0 q1 q2 q3 q4 HOI
   obtain⟨yM,aa4,q0,q1,q2,q3,q4⟩:=OI.out
   have py:=I (dK.tV yI 34 6)
   obtain⟨nw,mi⟩:=Row.src (tT cF) (Row.de (U.trans dX (U.trans hbI (show U yI (yI.alloc (.cells #[] 34))from bl))) iF.out)
   rw[ar]at mi
   have sv:=I mi
   clear mi
   go_wp2_with (at_builtin;refine fg rfl (.tmp 29) (.tmp 31) 27 rfl 34 iv (.agg #[.int .i64 0,.int .i64 0,.int .i64 0,.string ByteArray.empty,.int .i64 0,.int .i64 0]) 6 56 underlying27 ye DN DO DP aI aI py.out sv.out jD rfl rfl (fun b _ h=>by cases h) bp bf ?_)
   intro vJ wJ mq mr lp
   have HQJ:=I (kQ mr lp)
   have HOJ:=I (show dK wJ 34 6 vJ [] (cF.map R.D)from mq)
   clear mq mr lp py sv yM aa4 q0 q1 q2 q3 q4
   obtain⟨AJ,nJ,dJ,rfl⟩:∃A9 n9 c9,vJ=.slice A9 n9 c9:=by obtain⟨A9,c9,L9,tJ,-⟩:=HOJ.out.ownRow;exact⟨_,_,_,tJ⟩
   have PA:=I (OI.out.on HQJ.out.1)
   obtain⟨yM,aa4,q0,q1,q2,q3,q4⟩:=PA.out
   go_upto_region 10 with (fail)
   refine cZ fun yJ hyJ=>?_
   have OJ:=I (show OB yJ wr.heap.size (.int .i64 cz) (.int .i64 cD) (.int .i64 cE) (.slice AI nI dI) (.slice AJ nJ dJ)from by rw[<-hyJ];exact PA.out.CZ _)
   have hbJ:U wr yJ:=by rw[<-hyJ];exact Below.setCell (U.trans hbI HQJ.out.1) (Nat.le_refl _) _
   have HPJ:=I (show dK yJ 34 6 (.slice AJ nJ dJ) [] (cF.map R.D)from by rw[<-hyJ];exact HOJ.out.keep aJ (fun x hx=>dY 4 _ (fun e=>by have:=HQJ.out.2 x hx;omega)))
   have ak7:=I (show dK yJ 34 6 (.slice AI nI dI) [] (cB.map R.D)from by rw[<-hyJ];exact (Vq.out.de HQJ.out.1).keep aJ (fun x hx=>dY 4 _ (fun e=>by have:=HQI.out.2 x hx;omega)))
   have hzJ:wJ.heap.size<=yJ.heap.size:=by rw[<-hyJ];simp
   have hsJ:=HQJ.out.1.size
   clear hyJ PA yM aa4 q0 q1 q2 q3 q4 HOJ
   obtain⟨AI2,cI2,LI,eI,rI,nI2,mI⟩:=ak7.out.ownRow
   obtain⟨AJ2,cJ2,LJ,eJ,rJ,nJ2,mJ⟩:=HPJ.out.ownRow
   simp only[ar]at eI eJ
   injection eI with eI1 eI2 eI3
   injection eJ with eJ1 eJ2 eJ3
   subst eI1 eI2 eI3 eJ1 eJ2 eJ3
   have alc:=I (cr.kL eN fi eO rI rJ)
   have afq:=Vq.out.lt
   have HND:=I (show (LI++LJ).Nodup from ke nI2 nJ2 (fun a ha hb=>by have h1:=afq a (mI a ha);have h2:=HQJ.out.2 a (mJ a hb);omega))
   have HLM:=I (show ∀a,a∈LI++LJ->wr.heap.size<a from fun a ha=>(List.mem_append.1 ha).elim (fun q=>by have:=HQI.out.2 a (mI a q);omega) (fun q=>by have:=HQJ.out.2 a (mJ a q);omega))
   clear rI rJ nI2 nJ2 mI mJ afq
   obtain⟨yM,ald,q0,q1,q2,q3,q4⟩:=OJ.out
   have TJ:=I (HT.out.on hbJ)
   obtain⟨oR,oS,kR,kS,kT,kU,kV,kW,kX,kY,kZ,lf,jA,jB,jC⟩:=TJ.out.cl.box
   have HOO:=I (show dK (yJ.alloc (.cells #[.int .i64 cz,.int .i64 cD,.int .i64 cE,.slice AI cB.length dI,.slice AJ cF.length dJ] 81)) 81 5 v L ((x2.take i).map cr.D)from (TJ.out.cl.gv.own ⟨81,5,v,L,(x2.take i).map cr.D⟩ aJ).de bl)
   obtain⟨nw,mi⟩:=(dK.Pr (k:=5) yJ 81 alc.out rfl HND.out).src
   have sv:=I mi
   clear mi
   have HLV:=I (HT.out.cl.gv.own ⟨81,5,v,L,(x2.take i).map cr.D⟩ aJ).lt
   go_wp2_with (at_builtin;refine fg rfl (.tmp 35) (.tmp 37) 26 rfl 81 io (.agg #[.int .i64 0,.int .i64 0,.int .i64 0,.slice none 0 0,.slice none 0 0]) 5 72 underlying26 hio zo0 zo1 zo2 aI aI HOO.out sv.out 1 rfl rfl (fun b hb hm=>by have h1:=HLV.out b hb;have h2:=HLM.out b hm;omega) bZ bK ?_)
   intro v9 w9 mq mr lp
   have afr:dK w9 81 5 v9 (L++(LI++LJ)) ((x2.take (i+1)).map cr.D):=by rw[Jj cr.D h,gF.out];first | exact mq | (rw[List.map_take];exact mq)
   obtain⟨A9,n9,c9,rfl⟩:∃A9 n9 c9,v9=.slice A9 n9 c9:=by obtain⟨A9,c9,L9,tJ,-⟩:=mq.ownRow;exact⟨_,_,_,tJ⟩
   have HGR:=I (tW.grow (l:=[⟨9,1,(.slice B0 m0 d0),[],x0.map (fun x=>[Y.str x])⟩,⟨109,3,(.slice B1 m1 d1),L1,x1.map cw.D⟩]) (e:=⟨81,5,v,L,(x2.take i).map cr.D⟩) (e':=⟨81,5,.slice A9 n9 c9,L++(LI++LJ),(x2.take (i+1)).map cr.D⟩) HT.out (U.trans hbJ (show U yJ (yJ.alloc (.cells #[.int .i64 cz,.int .i64 cD,.int .i64 cE,.slice AI cB.length dI,.slice AJ cF.length dJ] 81))from bl)) mr afr (fun x hx=>by rcases hx with hx | hx;rcases lp x hx with e | e;exact Or.inl (Or.inl e);right;(try rw[World.size_alloc]at e);have:=hbJ.size;omega;rcases List.mem_append.1 hx with hx | hx;exact Or.inl (Or.inr hx);right;have:=HLM.out x hx;omega))
   obtain⟨GB,GN⟩:=HGR.out
   have HGN:=I (GN 2 (.slice A9 n9 c9) (GB.rV _))
   clear GN HGR mq afr mr lp yM ald q0 q1 q2 q3 q4 oR oS kR kS kT kU kV kW kX kY kZ lf jA jB jC
   obtain⟨ale,alf,afs,aft,afu,afv,afw,afx,afy,afz,afA,afB,aa6,aa7,aa8⟩:=GB
   exact X1
  ·
   skip
   have Pw:decide ((i:Int)<(x2.length:Int))=false:=aH
   have hdn:decide (i<x2.length)=false:=aH
   obtain⟨B2,m2,d2,rfl⟩:∃A9 n9 c9,v=.slice A9 n9 c9:=by obtain⟨A9,c9,L9,tJ,-⟩:=(HT.out.cl.gv.own ⟨81,5,v,L,(x2.take i).map cr.D⟩ aJ).ownRow;exact⟨_,_,_,tJ⟩
   have T6:=I (show tW w (w.heap.size+3) wr (w.heap.size+2) w.heap.size (w.heap.size+1) (.slice B0 m0 d0) (.slice B1 m1 d1) (.slice B2 m2 d2) (.slice A3 x3.length c3) (.string x4) (.int .i64 x5) (.slice A6 x6.length c6) (.slice A7 x7.length c7) (.slice A8 x8.length c8) (.bool x9) (.int .i64 F) (.int .i64 G) (.int .i64 Z) (.slice A0 x0.length c0) (.slice A1 x1.length c1) (.slice A2 x2.length c2) (.slice A3 x3.length c3) (.string x4) (.int .i64 x5) (.slice A6 x6.length c6) (.slice A7 x7.length c7) (.slice A8 x8.length c8) (.bool x9) (.int .i64 F) (.int .i64 G) (.int .i64 Z) [⟨9,1,(.slice B0 m0 d0),[],x0.map (fun x=>[Y.str x])⟩,⟨109,3,(.slice B1 m1 d1),L1,x1.map cw.D⟩,⟨81,5,(.slice B2 m2 d2),L,x2.map cr.D⟩]from by have h:=HT.out;rw[List.take_of_length_le (show x2.length<=i by omega)]at h;exact h)
   clear HT
   go_upto_region 12 with (fail)
   obtain⟨tj,tl,lx,lz,lA,lB,lC,lD,lE,lF,lG,lH,ji,jj,jk⟩:=T6.out.sb
   obtain⟨lP,l4,gM,gN,gH,gO,gP,gQ,gR,gS,gT,gU,fu,fv,fw⟩:=T6.out.cl.box
   have py:=I (dK.tV wr 34 6)
   obtain⟨nw,mi⟩:=Row.src (tT x3) (Row.de (U.trans T6.out.cl.de (show U wr (wr.alloc (.cells #[] 34))from bl)) Gm.out)
   rw[ar]at mi
   have sv:=I mi
   clear mi
   go_wp2_with (at_builtin;refine fg rfl (.tmp 41) (.tmp 43) 27 rfl 34 iv (.agg #[.int .i64 0,.int .i64 0,.int .i64 0,.string ByteArray.empty,.int .i64 0,.int .i64 0]) 6 56 underlying27 ye DN DO DP aI aI py.out sv.out c3 rfl rfl (fun b _ h=>by cases h) bp bf ?_)
   intro v9 w9 mq mr lp
   have HQ:=I (kQ mr lp)
   have ng:=I (show dK w9 34 6 v9 [] (x3.map R.D)from mq)
   clear mq mr lp py sv
   clear tj tl lx lz lA lB lC lD lE lF lG lH ji jj jk lP l4 gM gN gH gO gP gQ gR gS gT gU fu fv fw
   obtain⟨B3,m3,d3,rfl⟩:∃A9 n9 c9,v9=.slice A9 n9 c9:=by obtain⟨A9,c9,L9,tJ,-⟩:=ng.out.ownRow;exact⟨_,_,_,tJ⟩
   have nM:=I (T6.out.on HQ.out.1)
   obtain⟨tY,tZ,oo,oq,ou,ov,ow,ox,oy,oz,oA,oB,lT,lU,lV⟩:=nM.out.sb
   obtain⟨oR,oS,kR,kS,kT,kU,kV,kW,kX,kY,kZ,lf,jA,jB,jC⟩:=nM.out.cl.box
   go_upto_region 13 with (fail)
   refine cZ fun Vr Qo=>?_
   have T7:=I (show tW w (w.heap.size+3) Vr (w.heap.size+2) w.heap.size (w.heap.size+1) (.slice B0 m0 d0) (.slice B1 m1 d1) (.slice B2 m2 d2) (.slice B3 m3 d3) (.string x4) (.int .i64 x5) (.slice A6 x6.length c6) (.slice A7 x7.length c7) (.slice A8 x8.length c8) (.bool x9) (.int .i64 F) (.int .i64 G) (.int .i64 Z) (.slice A0 x0.length c0) (.slice A1 x1.length c1) (.slice A2 x2.length c2) (.slice A3 x3.length c3) (.string x4) (.int .i64 x5) (.slice A6 x6.length c6) (.slice A7 x7.length c7) (.slice A8 x8.length c8) (.bool x9) (.int .i64 F) (.int .i64 G) (.int .i64 Z) [⟨9,1,(.slice B0 m0 d0),[],x0.map (fun x=>[Y.str x])⟩,⟨109,3,(.slice B1 m1 d1),L1,x1.map cw.D⟩,⟨81,5,(.slice B2 m2 d2),L,x2.map cr.D⟩,⟨34,6,(.slice B3 m3 d3),[],x3.map R.D⟩]from by rw[<-Qo];exact T6.out.next HQ.out.1 ng.out HQ.out.2 3 (nM.out.cl.box.rT _))
   clear tY tZ oo oq ou ov ow ox oy oz oA oB lT lU lV oR oS kR kS kT kU kV kW kX kY kZ lf jA jB jC
   clear Qo HQ ng nM T6
   obtain⟨tj,tl,lx,lz,lA,lB,lC,lD,lE,lF,lG,lH,ji,jj,jk⟩:=T7.out.sb
   obtain⟨lP,l4,gM,gN,gH,gO,gP,gQ,gR,gS,gT,gU,fu,fv,fw⟩:=T7.out.cl.box
   have py:=I (dK.tV Vr 9 1)
   obtain⟨nw,mi⟩:=Row.src (mX x6) (Row.de (U.trans T7.out.cl.de (show U Vr (Vr.alloc (.cells #[] 9))from bl)) GW.out)
   rw[ar]at mi
   have sv:=I mi
   clear mi
   go_wp2_with (at_builtin;refine fg rfl (.tmp 46) (.tmp 48) 24 rfl 9 is (.string ByteArray.empty) 1 16 underlying24 Qa Qb Qc Qd aI aI py.out sv.out c6 rfl rfl (fun b _ h=>by cases h) bp bf ?_)
   intro v9 w9 mq mr lp
   have HQ:=I (kQ mr lp)
   have ng:=I (show dK w9 9 1 v9 [] (x6.map (fun x=>[Y.str x]))from mq)
   clear mq mr lp py sv
   clear tj tl lx lz lA lB lC lD lE lF lG lH ji jj jk lP l4 gM gN gH gO gP gQ gR gS gT gU fu fv fw
   obtain⟨B6,m6,d6,rfl⟩:∃A9 n9 c9,v9=.slice A9 n9 c9:=by obtain⟨A9,c9,L9,tJ,-⟩:=ng.out.ownRow;exact⟨_,_,_,tJ⟩
   have nM:=I (T7.out.on HQ.out.1)
   obtain⟨tY,tZ,oo,oq,ou,ov,ow,ox,oy,oz,oA,oB,lT,lU,lV⟩:=nM.out.sb
   obtain⟨oR,oS,kR,kS,kT,kU,kV,kW,kX,kY,kZ,lf,jA,jB,jC⟩:=nM.out.cl.box
   go_upto_region 14 with (fail)
   refine cZ fun Vs Qp=>?_
   have T8:=I (show tW w (w.heap.size+3) Vs (w.heap.size+2) w.heap.size (w.heap.size+1) (.slice B0 m0 d0) (.slice B1 m1 d1) (.slice B2 m2 d2) (.slice B3 m3 d3) (.string x4) (.int .i64 x5) (.slice B6 m6 d6) (.slice A7 x7.length c7) (.slice A8 x8.length c8) (.bool x9) (.int .i64 F) (.int .i64 G) (.int .i64 Z) (.slice A0 x0.length c0) (.slice A1 x1.length c1) (.slice A2 x2.length c2) (.slice A3 x3.length c3) (.string x4) (.int .i64 x5) (.slice A6 x6.length c6) (.slice A7 x7.length c7) (.slice A8 x8.length c8) (.bool x9) (.int .i64 F) (.int .i64 G) (.int .i64 Z) [⟨9,1,(.slice B0 m0 d0),[],x0.map (fun x=>[Y.str x])⟩,⟨109,3,(.slice B1 m1 d1),L1,x1.map cw.D⟩,⟨81,5,(.slice B2 m2 d2),L,x2.map cr.D⟩,⟨34,6,(.slice B3 m3 d3),[],x3.map R.D⟩,⟨9,1,(.slice B6 m6 d6),[],x6.map (fun x=>[Y.str x])⟩]from by rw[<-Qp];exact T7.out.next HQ.out.1 ng.out HQ.out.2 6 (nM.out.cl.box.tC _))
   clear tY tZ oo oq ou ov ow ox oy oz oA oB lT lU lV oR oS kR kS kT kU kV kW kX kY kZ lf jA jB jC
   clear Qp HQ ng nM T7
   obtain⟨tj,tl,lx,lz,lA,lB,lC,lD,lE,lF,lG,lH,ji,jj,jk⟩:=T8.out.sb
   obtain⟨lP,l4,gM,gN,gH,gO,gP,gQ,gR,gS,gT,gU,fu,fv,fw⟩:=T8.out.cl.box
   have py:=I (dK.tV Vs 9 1)
   obtain⟨nw,mi⟩:=Row.src (mX x7) (Row.de (U.trans T8.out.cl.de (show U Vs (Vs.alloc (.cells #[] 9))from bl)) Vp.out)
   rw[ar]at mi
   have sv:=I mi
   clear mi
   go_wp2_with (at_builtin;refine fg rfl (.tmp 51) (.tmp 53) 24 rfl 9 is (.string ByteArray.empty) 1 16 underlying24 Qa Qb Qc Qd aI aI py.out sv.out c7 rfl rfl (fun b _ h=>by cases h) bp bf ?_)
   intro v9 w9 mq mr lp
   have HQ:=I (kQ mr lp)
   have ng:=I (show dK w9 9 1 v9 [] (x7.map (fun x=>[Y.str x]))from mq)
   clear mq mr lp py sv
   clear tj tl lx lz lA lB lC lD lE lF lG lH ji jj jk lP l4 gM gN gH gO gP gQ gR gS gT gU fu fv fw
   obtain⟨B7,m7,d7,rfl⟩:∃A9 n9 c9,v9=.slice A9 n9 c9:=by obtain⟨A9,c9,L9,tJ,-⟩:=ng.out.ownRow;exact⟨_,_,_,tJ⟩
   have nM:=I (T8.out.on HQ.out.1)
   obtain⟨tY,tZ,oo,oq,ou,ov,ow,ox,oy,oz,oA,oB,lT,lU,lV⟩:=nM.out.sb
   obtain⟨oR,oS,kR,kS,kT,kU,kV,kW,kX,kY,kZ,lf,jA,jB,jC⟩:=nM.out.cl.box
   go_upto_region 15 with (fail)
   refine cZ fun Vt Qq=>?_
   have T9:=I (show tW w (w.heap.size+3) Vt (w.heap.size+2) w.heap.size (w.heap.size+1) (.slice B0 m0 d0) (.slice B1 m1 d1) (.slice B2 m2 d2) (.slice B3 m3 d3) (.string x4) (.int .i64 x5) (.slice B6 m6 d6) (.slice B7 m7 d7) (.slice A8 x8.length c8) (.bool x9) (.int .i64 F) (.int .i64 G) (.int .i64 Z) (.slice A0 x0.length c0) (.slice A1 x1.length c1) (.slice A2 x2.length c2) (.slice A3 x3.length c3) (.string x4) (.int .i64 x5) (.slice A6 x6.length c6) (.slice A7 x7.length c7) (.slice A8 x8.length c8) (.bool x9) (.int .i64 F) (.int .i64 G) (.int .i64 Z) [⟨9,1,(.slice B0 m0 d0),[],x0.map (fun x=>[Y.str x])⟩,⟨109,3,(.slice B1 m1 d1),L1,x1.map cw.D⟩,⟨81,5,(.slice B2 m2 d2),L,x2.map cr.D⟩,⟨34,6,(.slice B3 m3 d3),[],x3.map R.D⟩,⟨9,1,(.slice B6 m6 d6),[],x6.map (fun x=>[Y.str x])⟩,⟨9,1,(.slice B7 m7 d7),[],x7.map (fun x=>[Y.str x])⟩]from by rw[<-Qq];exact T8.out.next HQ.out.1 ng.out HQ.out.2 7 (nM.out.cl.box.LD _))
   clear tY tZ oo oq ou ov ow ox oy oz oA oB lT lU lV oR oS kR kS kT kU kV kW kX kY kZ lf jA jB jC
   clear Qq HQ ng nM T8
   obtain⟨tj,tl,lx,lz,lA,lB,lC,lD,lE,lF,lG,lH,ji,jj,jk⟩:=T9.out.sb
   obtain⟨lP,l4,gM,gN,gH,gO,gP,gQ,gR,gS,gT,gU,fu,fv,fw⟩:=T9.out.cl.box
   have py:=I (dK.tV Vt 76 2)
   obtain⟨nw,mi⟩:=Row.src (GX x8) (Row.de (U.trans T9.out.cl.de (show U Vt (Vt.alloc (.cells #[] 76))from bl)) OW.out)
   rw[ar]at mi
   have sv:=I mi
   clear mi
   go_wp2_with (at_builtin;refine fg rfl (.tmp 56) (.tmp 58) 28 rfl 76 ia (.agg #[.int .i64 0,.int .i64 0]) 2 16 underlying28 hia za0 za1 za2 aI aI py.out sv.out c8 rfl rfl (fun b _ h=>by cases h) bp bf ?_)
   intro v9 w9 mq mr lp
   have HQ:=I (kQ mr lp)
   have ng:=I (show dK w9 76 2 v9 [] (x8.map cV.D)from mq)
   clear mq mr lp py sv
   clear tj tl lx lz lA lB lC lD lE lF lG lH ji jj jk lP l4 gM gN gH gO gP gQ gR gS gT gU fu fv fw
   obtain⟨B8,m8,d8,rfl⟩:∃A9 n9 c9,v9=.slice A9 n9 c9:=by obtain⟨A9,c9,L9,tJ,-⟩:=ng.out.ownRow;exact⟨_,_,_,tJ⟩
   have nM:=I (T9.out.on HQ.out.1)
   obtain⟨tY,tZ,oo,oq,ou,ov,ow,ox,oy,oz,oA,oB,lT,lU,lV⟩:=nM.out.sb
   obtain⟨oR,oS,kR,kS,kT,kU,kV,kW,kX,kY,kZ,lf,jA,jB,jC⟩:=nM.out.cl.box
   go_upto_region 16 with (fail)
   refine cZ fun Fu Hb=>?_
   have Mn:=I (show tW w (w.heap.size+3) Fu (w.heap.size+2) w.heap.size (w.heap.size+1) (.slice B0 m0 d0) (.slice B1 m1 d1) (.slice B2 m2 d2) (.slice B3 m3 d3) (.string x4) (.int .i64 x5) (.slice B6 m6 d6) (.slice B7 m7 d7) (.slice B8 m8 d8) (.bool x9) (.int .i64 F) (.int .i64 G) (.int .i64 Z) (.slice A0 x0.length c0) (.slice A1 x1.length c1) (.slice A2 x2.length c2) (.slice A3 x3.length c3) (.string x4) (.int .i64 x5) (.slice A6 x6.length c6) (.slice A7 x7.length c7) (.slice A8 x8.length c8) (.bool x9) (.int .i64 F) (.int .i64 G) (.int .i64 Z) [⟨9,1,(.slice B0 m0 d0),[],x0.map (fun x=>[Y.str x])⟩,⟨109,3,(.slice B1 m1 d1),L1,x1.map cw.D⟩,⟨81,5,(.slice B2 m2 d2),L,x2.map cr.D⟩,⟨34,6,(.slice B3 m3 d3),[],x3.map R.D⟩,⟨9,1,(.slice B6 m6 d6),[],x6.map (fun x=>[Y.str x])⟩,⟨9,1,(.slice B7 m7 d7),[],x7.map (fun x=>[Y.str x])⟩,⟨76,2,(.slice B8 m8 d8),[],x8.map cV.D⟩]from by rw[<-Hb];exact T9.out.next HQ.out.1 ng.out HQ.out.2 8 (nM.out.cl.box.IZ _))
   clear tY tZ oo oq ou ov ow ox oy oz oA oB lT lU lV oR oS kR kS kT kU kV kW kX kY kZ lf jA jB jC
   clear Hb HQ ng nM T9
   have Ku:=I Mn.out.rb
   obtain⟨tj,tl,lx,lz,lA,lB,lC,lD,lE,lF,lG,lH,ji,jj,jk⟩:=Mn.out.sb
   obtain⟨lP,l4,gM,gN,gH,gO,gP,gQ,gR,gS,gT,gU,fu,fv,fw⟩:=Mn.out.cl.box
   refine wp_region_lit ?_
   refine wpList_plain rfl fun K hK=>?_
   go_simp
   refine hK _ _ ?_
   refine wpList_store_mid rfl 30 (.tmp 2) (.tmp 61) rfl (w.heap.size+1) 0 #[.slice B0 m0 d0,.slice B1 m1 d1,.slice B2 m2 d2,.slice B3 m3 d3,.string x4,.int .i64 x5,.slice B6 m6 d6,.slice B7 m7 d7,.slice B8 m8 d8,.bool x9,.int .i64 F,.int .i64 G,.int .i64 Z] rfl rfl Ku.out.there aG aW ?_
   refine vC fun wz mW=>?_
   replace mW:wz=(((((((((((((Fu.setCell ⟨w.heap.size+1,0,none⟩ (.slice B0 m0 d0)).setCell ⟨w.heap.size+1,1,none⟩ (.slice B1 m1 d1)).setCell ⟨w.heap.size+1,2,none⟩ (.slice B2 m2 d2)).setCell ⟨w.heap.size+1,3,none⟩ (.slice B3 m3 d3)).setCell ⟨w.heap.size+1,4,none⟩ (.string x4)).setCell ⟨w.heap.size+1,5,none⟩ (.int .i64 x5)).setCell ⟨w.heap.size+1,6,none⟩ (.slice B6 m6 d6)).setCell ⟨w.heap.size+1,7,none⟩ (.slice B7 m7 d7)).setCell ⟨w.heap.size+1,8,none⟩ (.slice B8 m8 d8)).setCell ⟨w.heap.size+1,9,none⟩ (.bool x9)).setCell ⟨w.heap.size+1,10,none⟩ (.int .i64 F)).setCell ⟨w.heap.size+1,11,none⟩ (.int .i64 G)).setCell ⟨w.heap.size+1,12,none⟩ (.int .i64 Z)):=mW
   have Hc:∀y,(w.heap.size+1)≠y->wz.heap[y]?=Fu.heap[y]?:=fun y hy=>by rw[mW,dY 12 _ hy,dY 11 _ hy,dY 10 _ hy,dY 9 _ hy,dY 8 _ hy,dY 7 _ hy,dY 6 _ hy,dY 5 _ hy,dY 4 _ hy,dY 3 _ hy,dY 2 _ hy,dY 1 _ hy,dY 0 _ hy]
   have zx:wz.heap.size=Fu.heap.size:=by rw[mW];simp
   have PZ:SB wz (w.heap.size+1) (.slice B0 m0 d0) (.slice B1 m1 d1) (.slice B2 m2 d2) (.slice B3 m3 d3) (.string x4) (.int .i64 x5) (.slice B6 m6 d6) (.slice B7 m7 d7) (.slice B8 m8 d8) (.bool x9) (.int .i64 F) (.int .i64 G) (.int .i64 Z):=by rw[mW];exact ((((((((((((Ku.out.yR _).xY _).rV _).rT _).CZ _).Ps _).tC _).LD _).IZ _).Uy _).Kr _).Ks _).Gy _
   have sS:U w wz:=by rw[mW];exact (Below.setCell (Below.setCell (Below.setCell (Below.setCell (Below.setCell (Below.setCell (Below.setCell (Below.setCell (Below.setCell (Below.setCell (Below.setCell (Below.setCell (Below.setCell Mn.out.cl.de (show w.heap.size<=w.heap.size+1 by omega) _) (show w.heap.size<=w.heap.size+1 by omega) _) (show w.heap.size<=w.heap.size+1 by omega) _) (show w.heap.size<=w.heap.size+1 by omega) _) (show w.heap.size<=w.heap.size+1 by omega) _) (show w.heap.size<=w.heap.size+1 by omega) _) (show w.heap.size<=w.heap.size+1 by omega) _) (show w.heap.size<=w.heap.size+1 by omega) _) (show w.heap.size<=w.heap.size+1 by omega) _) (show w.heap.size<=w.heap.size+1 by omega) _) (show w.heap.size<=w.heap.size+1 by omega) _) (show w.heap.size<=w.heap.size+1 by omega) _) (show w.heap.size<=w.heap.size+1 by omega) _)
   have hez:gL w.heap.size wz [⟨9,1,(.slice B0 m0 d0),[],x0.map (fun x=>[Y.str x])⟩,⟨109,3,(.slice B1 m1 d1),L1,x1.map cw.D⟩,⟨81,5,(.slice B2 m2 d2),L,x2.map cr.D⟩,⟨34,6,(.slice B3 m3 d3),[],x3.map R.D⟩,⟨9,1,(.slice B6 m6 d6),[],x6.map (fun x=>[Y.str x])⟩,⟨9,1,(.slice B7 m7 d7),[],x7.map (fun x=>[Y.str x])⟩,⟨76,2,(.slice B8 m8 d8),[],x8.map cV.D⟩]:=(Mn.out.cl.gv.keep aF (fun e he x hx=>Hc x (by have:=Mn.out.cl.gv.low e he x hx;omega))).afj aF
   clear tj tl lx lz lA lB lC lD lE lF lG lH ji jj jk lP l4 gM gN gH gO gP gQ gR gS gT gU fu fv fw
   obtain⟨-,-,e0,e1,e2,e3,e4,e5,e6,e7,e8,e9,iE,jc,jd⟩:=PZ
   clear mW Ku Hc zx
   refine wpList_nil ?_
   go_simp
   rename_i Xi
   refine Xi _ _ ?_
   clear Xi hK
   refine wp_ret ?_
   exact bodyPost_ret (v:=.agg #[.slice B0 m0 d0,.slice B1 m1 d1,.slice B2 m2 d2,.slice B3 m3 d3,.string x4,.int .i64 x5,.slice B6 m6 d6,.slice B7 m7 d7,.slice B8 m8 d8,.bool x9,.int .i64 F,.int .i64 G,.int .i64 Z]) (by simp[results,results29,e0,e1,e2,e3,e4,e5,e6,e7,e8,e9,iE,jc,jd,go_sem];try rfl) rfl ⟨_,_,_,_,_,_,_,_,_,_,_,_,_,_,rfl,hez,sS⟩
end Go.Proofs.YtjngkknbpfgdcaaGreatDoor
