import Derived.Test.YtjngkknbpfgdcaaGreatDoorVvK0
set_option linter.unusedVariables false
set_option linter.unusedSimpArgs false
set_option maxRecDepth 100000
set_option maxHeartbeats 8000000
namespace Go.Proofs.YtjngkknbpfgdcaaGreatDoor
open Go.RowKit Tryz
def Po (N:Nat) (wa wb:World):Prop:=wa.heap.size<=wb.heap.size/\∀k,N<=k->k<wa.heap.size->wb.heap[k]?=wa.heap[k]?
theorem qG {N:Nat} {wa wb:World} (h:U wa wb):Po N wa wb:=⟨h.size,fun k _ hl=>Below.block h k hl⟩
theorem Po.obj {N g:Nat} {wa wb:World} {o:Obj} (h:Po N wa wb) (hN:N<=g) (hg:wa.heap[g]?=some o):wb.heap[g]?=some o:=(h.2 g hN (Array.getElem?_eq_some_iff.1 hg).1).trans hg
theorem dK.OX {N:Nat} {wa wb:World} {E:TypeId} {k:Nat} {v:Value} {L:List Nat} {ds:List (List Y)} (h:dK wa E k v L ds) (hk:Po N wa wb) (hl:∀q,iG v L q->N<=q):dK wb E k v L ds:=h.keep hk.1 fun q hq=>hk.2 q (hl q hq) (h.lt q hq)
theorem yS {wm wq wz:World} {r:Option Nat} (h:wm.grownBy wq r) (k:U wq wz):wm.grownBy wz r :=
 ⟨k.os.trans h.os,k.tape.trans h.tape,k.output.trans h.output,aw h.size k.size,fun i hi hr=>(Below.block k i (au hi h.size)).trans (h.block i hi hr)⟩
theorem Qr {w wx:World} {N b q r:Nat} {v0 v1 v2 v3 v4 v5 v6 v7 v8 v9 v10 v11 v12 s0 s1 s2 s3 s4 s5 s6 s7 s8 s9 s10 s11 s12:Value} {l:List o7} (h:tW w N wx b q r v0 v1 v2 v3 v4 v5 v6 v7 v8 v9 v10 v11 v12 s0 s1 s2 s3 s4 s5 s6 s7 s8 s9 s10 s11 s12 l) :
  tW w N ((wx.setCell ⟨b,2,none⟩ (.slice (some ⟨wx.heap.size,0,none⟩) 0 0)).alloc (.cells #[] 81)) b q r v0 v1 (.slice (some ⟨wx.heap.size,0,none⟩) 0 0) v3 v4 v5 v6 v7 v8 v9 v10 v11 v12 s0 s1 s2 s3 s4 s5 s6 s7 s8 s9 s10 s11 s12 (l++[⟨81,5,.slice (some ⟨wx.heap.size,0,none⟩) 0 0,[],[]⟩]):=by
 have hl:iG (.slice (some ⟨wx.heap.size,0,none⟩) 0 0) []=fun b=>wx.heap.size=b:=by
  funext b
  simp[iG,Value.ownBlock]
 have hb:=h.cl.box.1
 have hz:(wx.setCell ⟨b,2,none⟩ (.slice (some ⟨wx.heap.size,0,none⟩) 0 0)).heap.size=wx.heap.size:=aJ
 have h1:tW w N (wx.setCell ⟨b,2,none⟩ (.slice (some ⟨wx.heap.size,0,none⟩) 0 0)) b q r v0 v1 (.slice (some ⟨wx.heap.size,0,none⟩) 0 0) v3 v4 v5 v6 v7 v8 v9 v10 v11 v12 s0 s1 s2 s3 s4 s5 s6 s7 s8 s9 s10 s11 s12 l :=
  ⟨⟨h.cl.box.rV _,h.cl.gv.td h.cl.low.2.1 2 _,Below.setCell h.cl.de h.cl.low.1 _,h.cl.low.1,h.cl.low.2.1,by rw[hz];exact h.cl.low.2.2⟩,h.sb.td 2 _ (fun e=>h.ne.1 e.symm),h.rb.td 2 _ (fun e=>h.ne.2.1 e.symm),h.ne⟩
 have ho:=dK.tV (wx.setCell ⟨b,2,none⟩ (.slice (some ⟨wx.heap.size,0,none⟩) 0 0)) 81 5
 rw[hz]at ho
 have yT:U (wx.setCell ⟨b,2,none⟩ (.slice (some ⟨wx.heap.size,0,none⟩) 0 0)) ((wx.setCell ⟨b,2,none⟩ (.slice (some ⟨wx.heap.size,0,none⟩) 0 0)).alloc (.cells #[] 81)):=bl
 have h2:=h1.on yT
 exact⟨⟨h2.cl.box,h1.cl.gv.snoc yT (e:=⟨81,5,.slice (some ⟨wx.heap.size,0,none⟩) 0 0,[],[]⟩) ho h1.cl.low.2.2 (fun x hx=>by rw[hl]at hx;omega),h2.cl.de,h2.cl.low⟩,h2.sb,h2.rb,h2.ne⟩
theorem Db:Qg 33:=by
 intro x0 x1 x2 x3 x4 x5 x6 x7 x8 x9 F G Z S w vs hv Mk
 obtain⟨A0,c0,A1,c1,A2,c2,A3,c3,A6,c6,A7,c7,A8,c8,rfl,g0,g1,g2,g3,g4,g5,g6,g7,g8,-,g10,g11,g12⟩:=O.gK hv
 have xU:=I g0
 have XW:=g0.1
 have DG:=g0.2.1
 simp only[ar]at XW
 unfold maxLen at DG
 have qv:=I g1
 have dS:=g1.1
 have XX:=g1.2.1
 simp only[ar]at dS
 unfold maxLen at XX
 have kp:=I g2
 have mu:=g2.1
 have qw:=g2.2.1
 simp only[ar]at mu
 unfold maxLen at qw
 have Gm:=I g3
 have yN:=g3.1
 have vD:=g3.2.1
 simp only[ar]at yN
 unfold maxLen at vD
 have GW:=I g6
 have D1:=g6.1
 have WQ:=g6.2.1
 simp only[ar]at D1
 unfold maxLen at WQ
 have Vp:=I g7
 have hl7:=g7.1
 have hm7:=g7.2.1
 simp only[ar]at hl7
 unfold maxLen at hm7
 have OW:=I g8
 have hl8:=g8.1
 have hm8:=g8.2.1
 simp only[ar]at hl8
 unfold maxLen at hm8
 rw[O.iM]at Mk
 simp only[Y.Gf,Y.ln,ar]at Mk
 have Xe:x0.length<=1048576:=aF
 have hx1:x1.length<=1048576:=aF
 have hx2:x2.length<=1048576:=aF
 have XY:x3.length<=1048576:=aF
 have hx6:x6.length<=1048576:=aF
 have hx7:x7.length<=1048576:=aF
 have hx8:x8.length<=1048576:=aF
 have HFR:=I (show ∀(k:Nat) (h:k<x1.length),x1[k].fl.length<=1048576 from fun k h=>by have:=Fs x1 k h;omega)
 have HFO:=I (show ∀(k:Nat) (h:k<x2.length),x2[k].its.length+x2[k].fO.length<=1048576 from fun k h=>by have:=Fq x2 k h;omega)
 clear Mk hv g0 g1 g2 g3 g6 g7 g8
 obtain⟨is,Qa,Qb,Qc,Qd⟩:=info_parts Bg
 obtain⟨iv,ye,DN,DO,DP⟩:=info_parts o9
 obtain⟨ia,hia,za0,za1,za2⟩:=info_parts KF
 obtain⟨io,hio,zo0,zo1,zo2⟩:=info_parts AX
 go_enter func33,ntmps33
 go_upto_region 2 with (fail)
 refine cZ fun w2 nn=>?_
 replace nn:((w.alloc (.cells #[.slice A0 x0.length c0,.slice A1 x1.length c1,.slice A2 x2.length c2,.slice A3 x3.length c3,.string x4,.int .i64 x5,.slice A6 x6.length c6,.slice A7 x7.length c7,.slice A8 x8.length c8,.bool x9,.int .i64 F,.int .i64 G,.int .i64 Z] 30)).alloc (.cells #[.slice none 0 0,.slice none 0 0,.slice none 0 0,.slice none 0 0,.string ByteArray.empty,.int .i64 0,.slice none 0 0,.slice none 0 0,.slice none 0 0,.bool false,.int .i64 0,.int .i64 0,.int .i64 0] 30)).alloc (.cells #[.slice A0 x0.length c0,.slice A1 x1.length c1,.slice A2 x2.length c2,.slice A3 x3.length c3,.string x4,.int .i64 x5,.slice A6 x6.length c6,.slice A7 x7.length c7,.slice A8 x8.length c8,.bool x9,.int .i64 F,.int .i64 G,.int .i64 Z] 30)=w2:=nn
 have gC:U w w2:=by rw[<-nn];exact bl
 have xX:w2.heap.size=w.heap.size+3:=by rw[<-nn];simp
 have SQ:SB w2 w.heap.size (.slice A0 x0.length c0) (.slice A1 x1.length c1) (.slice A2 x2.length c2) (.slice A3 x3.length c3) (.string x4) (.int .i64 x5) (.slice A6 x6.length c6) (.slice A7 x7.length c7) (.slice A8 x8.length c8) (.bool x9) (.int .i64 F) (.int .i64 G) (.int .i64 Z):=by rw[<-nn];first | exact (SB.new w 30).on bl | trace_state
 have SR:SB w2 (w.heap.size+1) (.slice none 0 0) (.slice none 0 0) (.slice none 0 0) (.slice none 0 0) (.string ByteArray.empty) (.int .i64 0) (.slice none 0 0) (.slice none 0 0) (.slice none 0 0) (.bool false) (.int .i64 0) (.int .i64 0) (.int .i64 0):=by rw[<-nn];first | (have h:=(SB.new (w.alloc (.cells #[.slice A0 x0.length c0,.slice A1 x1.length c1,.slice A2 x2.length c2,.slice A3 x3.length c3,.string x4,.int .i64 x5,.slice A6 x6.length c6,.slice A7 x7.length c7,.slice A8 x8.length c8,.bool x9,.int .i64 F,.int .i64 G,.int .i64 Z] 30)) 30 (v0:=.slice none 0 0) (v1:=.slice none 0 0) (v2:=.slice none 0 0) (v3:=.slice none 0 0) (v4:=.string ByteArray.empty) (v5:=.int .i64 0) (v6:=.slice none 0 0) (v7:=.slice none 0 0) (v8:=.slice none 0 0) (v9:=.bool false) (v10:=.int .i64 0) (v11:=.int .i64 0) (v12:=.int .i64 0));rw[World.size_alloc]at h;exact h.on bl) | trace_state
 have SBB:SB w2 (w.heap.size+2) (.slice A0 x0.length c0) (.slice A1 x1.length c1) (.slice A2 x2.length c2) (.slice A3 x3.length c3) (.string x4) (.int .i64 x5) (.slice A6 x6.length c6) (.slice A7 x7.length c7) (.slice A8 x8.length c8) (.bool x9) (.int .i64 F) (.int .i64 G) (.int .i64 Z):=by rw[<-nn];first | (have h:=SB.new ((w.alloc (.cells #[.slice A0 x0.length c0,.slice A1 x1.length c1,.slice A2 x2.length c2,.slice A3 x3.length c3,.string x4,.int .i64 x5,.slice A6 x6.length c6,.slice A7 x7.length c7,.slice A8 x8.length c8,.bool x9,.int .i64 F,.int .i64 G,.int .i64 Z] 30)).alloc (.cells #[.slice none 0 0,.slice none 0 0,.slice none 0 0,.slice none 0 0,.string ByteArray.empty,.int .i64 0,.slice none 0 0,.slice none 0 0,.slice none 0 0,.bool false,.int .i64 0,.int .i64 0,.int .i64 0] 30)) 30 (v0:=.slice A0 x0.length c0) (v1:=.slice A1 x1.length c1) (v2:=.slice A2 x2.length c2) (v3:=.slice A3 x3.length c3) (v4:=.string x4) (v5:=.int .i64 x5) (v6:=.slice A6 x6.length c6) (v7:=.slice A7 x7.length c7) (v8:=.slice A8 x8.length c8) (v9:=.bool x9) (v10:=.int .i64 F) (v11:=.int .i64 G) (v12:=.int .i64 Z);simp only[World.size_alloc]at h;exact h) | trace_state
 have T2:=I (show tW w (w.heap.size+3) w2 (w.heap.size+2) w.heap.size (w.heap.size+1) (.slice A0 x0.length c0) (.slice A1 x1.length c1) (.slice A2 x2.length c2) (.slice A3 x3.length c3) (.string x4) (.int .i64 x5) (.slice A6 x6.length c6) (.slice A7 x7.length c7) (.slice A8 x8.length c8) (.bool x9) (.int .i64 F) (.int .i64 G) (.int .i64 Z) (.slice A0 x0.length c0) (.slice A1 x1.length c1) (.slice A2 x2.length c2) (.slice A3 x3.length c3) (.string x4) (.int .i64 x5) (.slice A6 x6.length c6) (.slice A7 x7.length c7) (.slice A8 x8.length c8) (.bool x9) (.int .i64 F) (.int .i64 G) (.int .i64 Z) []from⟨⟨SBB,gL.nil _ _,gC,by omega,by omega,by omega⟩,SQ,SR,by omega,by omega,by omega,by omega,by omega⟩)
 clear nn gC xX SQ SR SBB
 obtain⟨tj,tl,lx,lz,lA,lB,lC,lD,lE,lF,lG,lH,ji,jj,jk⟩:=T2.out.sb
 obtain⟨lP,l4,gM,gN,gH,gO,gP,gQ,gR,gS,gT,gU,fu,fv,fw⟩:=T2.out.cl.box
 have py:=I (dK.tV w2 9 1)
 obtain⟨nw,mi⟩:=Row.src (mX x0) (Row.de (U.trans T2.out.cl.de (show U w2 (w2.alloc (.cells #[] 9))from bl)) xU.out)
 rw[ar]at mi
 have sv:=I mi
 clear mi
 go_wp2_with (at_builtin;refine fg rfl (.tmp 7) (.tmp 9) 24 rfl 9 is (.string ByteArray.empty) 1 16 underlying24 Qa Qb Qc Qd aI aI py.out sv.out c0 rfl rfl (fun b _ h=>by cases h) bp bf ?_)
 intro v9 w9 mq mr lp
 have HQ:=I (kQ mr lp)
 have ng:=I (show dK w9 9 1 v9 [] (x0.map (fun x=>[Y.str x]))from mq)
 clear mq mr lp py sv
 clear tj tl lx lz lA lB lC lD lE lF lG lH ji jj jk lP l4 gM gN gH gO gP gQ gR gS gT gU fu fv fw
 obtain⟨B0,m0,d0,rfl⟩:∃A9 n9 c9,v9=.slice A9 n9 c9:=by obtain⟨A9,c9,L9,tJ,-⟩:=ng.out.ownRow;exact⟨_,_,_,tJ⟩
 have nM:=I (T2.out.on HQ.out.1)
 obtain⟨tY,tZ,oo,oq,ou,ov,ow,ox,oy,oz,oA,oB,lT,lU,lV⟩:=nM.out.sb
 obtain⟨oR,oS,kR,kS,kT,kU,kV,kW,kX,kY,kZ,lf,jA,jB,jC⟩:=nM.out.cl.box
 go_upto_region 3 with (fail)
 refine cZ fun wq3 Ql=>?_
 have T3:=I (show tW w (w.heap.size+3) wq3 (w.heap.size+2) w.heap.size (w.heap.size+1) (.slice B0 m0 d0) (.slice A1 x1.length c1) (.slice A2 x2.length c2) (.slice A3 x3.length c3) (.string x4) (.int .i64 x5) (.slice A6 x6.length c6) (.slice A7 x7.length c7) (.slice A8 x8.length c8) (.bool x9) (.int .i64 F) (.int .i64 G) (.int .i64 Z) (.slice A0 x0.length c0) (.slice A1 x1.length c1) (.slice A2 x2.length c2) (.slice A3 x3.length c3) (.string x4) (.int .i64 x5) (.slice A6 x6.length c6) (.slice A7 x7.length c7) (.slice A8 x8.length c8) (.bool x9) (.int .i64 F) (.int .i64 G) (.int .i64 Z) [⟨9,1,(.slice B0 m0 d0),[],x0.map (fun x=>[Y.str x])⟩]from by rw[<-Ql];exact T2.out.next HQ.out.1 ng.out HQ.out.2 0 (nM.out.cl.box.yR _))
 clear tY tZ oo oq ou ov ow ox oy oz oA oB lT lU lV oR oS kR kS kT kU kV kW kX kY kZ lf jA jB jC
 clear Ql HQ ng nM T2
 obtain⟨tj,tl,lx,lz,lA,lB,lC,lD,lE,lF,lG,lH,ji,jj,jk⟩:=T3.out.sb
 obtain⟨lP,l4,gM,gN,gH,gO,gP,gQ,gR,gS,gT,gU,fu,fv,fw⟩:=T3.out.cl.box
 go_upto_region 4 with (go_at_call 89;refine (Fo x1 S _ _ _ (Row.de T3.out.cl.de qv.out) hx1 HFR.out).mono ?_;rintro e w9 ⟨v9,L1,rfl,mq,Ub,qz⟩;have ng:=I mq;have XZ:=I Ub;have Ml:=I qz;clear mq Ub qz;obtain⟨B1,m1,d1,rfl⟩:∃A9 n9 c9,v9=.slice A9 n9 c9:=bN;have nM:=I (T3.out.on Ml.out);obtain⟨oR,oS,kR,kS,kT,kU,kV,kW,kX,kY,kZ,lf,jA,jB,jC⟩:=nM.out.cl.box)
 clear tj tl lx lz lA lB lC lD lE lF lG lH ji jj jk lP l4 gM gN gH gO gP gQ gR gS gT gU fu fv fw
 refine cZ fun wq4 Qm=>?_
 have T4:=I (show tW w (w.heap.size+3) wq4 (w.heap.size+2) w.heap.size (w.heap.size+1) (.slice B0 m0 d0) (.slice B1 m1 d1) (.slice A2 x2.length c2) (.slice A3 x3.length c3) (.string x4) (.int .i64 x5) (.slice A6 x6.length c6) (.slice A7 x7.length c7) (.slice A8 x8.length c8) (.bool x9) (.int .i64 F) (.int .i64 G) (.int .i64 Z) (.slice A0 x0.length c0) (.slice A1 x1.length c1) (.slice A2 x2.length c2) (.slice A3 x3.length c3) (.string x4) (.int .i64 x5) (.slice A6 x6.length c6) (.slice A7 x7.length c7) (.slice A8 x8.length c8) (.bool x9) (.int .i64 F) (.int .i64 G) (.int .i64 Z) [⟨9,1,(.slice B0 m0 d0),[],x0.map (fun x=>[Y.str x])⟩,⟨109,3,(.slice B1 m1 d1),L1,x1.map cw.D⟩]from by rw[<-Qm];exact T3.out.next Ml.out ng.out XZ.out 1 (nM.out.cl.box.xY _))
 clear Qm Ml ng XZ nM T3 oR oS kR kS kT kU kV kW kX kY kZ lf jA jB jC
 obtain⟨tj,tl,lx,lz,lA,lB,lC,lD,lE,lF,lG,lH,ji,jj,jk⟩:=T4.out.sb
 obtain⟨lP,l4,gM,gN,gH,gO,gP,gQ,gR,gS,gT,gU,fu,fv,fw⟩:=T4.out.cl.box
 go_upto_region 5 with (fail)
 clear tj tl lx lz lA lB lC lD lE lF lG lH ji jj jk lP l4 gM gN gH gO gP gQ gR gS gT gU fu fv fw
 refine cZ fun wq5 Qn=>?_
 have T5:=I (show tW w (w.heap.size+3) wq5 (w.heap.size+2) w.heap.size (w.heap.size+1) (.slice B0 m0 d0) (.slice B1 m1 d1) (.slice (some ⟨wq4.heap.size,0,none⟩) 0 0) (.slice A3 x3.length c3) (.string x4) (.int .i64 x5) (.slice A6 x6.length c6) (.slice A7 x7.length c7) (.slice A8 x8.length c8) (.bool x9) (.int .i64 F) (.int .i64 G) (.int .i64 Z) (.slice A0 x0.length c0) (.slice A1 x1.length c1) (.slice A2 x2.length c2) (.slice A3 x3.length c3) (.string x4) (.int .i64 x5) (.slice A6 x6.length c6) (.slice A7 x7.length c7) (.slice A8 x8.length c8) (.bool x9) (.int .i64 F) (.int .i64 G) (.int .i64 Z) [⟨9,1,(.slice B0 m0 d0),[],x0.map (fun x=>[Y.str x])⟩,⟨109,3,(.slice B1 m1 d1),L1,x1.map cw.D⟩,⟨81,5,(.slice (some ⟨wq4.heap.size,0,none⟩) 0 0),[],[]⟩]from by rw[<-Qn];exact Qr T4.out)
 clear Qn T4
 obtain⟨tj,tl,lx,lz,lA,lB,lC,lD,lE,lF,lG,lH,ji,jj,jk⟩:=T5.out.sb
 obtain⟨lP,l4,gM,gN,gH,gO,gP,gQ,gR,gS,gT,gU,fu,fv,fw⟩:=T5.out.cl.box
 go_wp2_with (fail)
 clear tj tl lx lz lA lB lC lD lE lF lG lH ji jj jk lP l4 gM gN gH gO gP gQ gR gS gT gU fu fv fw
 go_loopw [4] (fun iv wr=>∃(i:Nat) (v:Value) (L:List Nat),iv=.int .i64 i/\i<=x2.length/\Hid (tW w (w.heap.size+3) wr (w.heap.size+2) w.heap.size (w.heap.size+1) (.slice B0 m0 d0) (.slice B1 m1 d1) v (.slice A3 x3.length c3) (.string x4) (.int .i64 x5) (.slice A6 x6.length c6) (.slice A7 x7.length c7) (.slice A8 x8.length c8) (.bool x9) (.int .i64 F) (.int .i64 G) (.int .i64 Z) (.slice A0 x0.length c0) (.slice A1 x1.length c1) (.slice A2 x2.length c2) (.slice A3 x3.length c3) (.string x4) (.int .i64 x5) (.slice A6 x6.length c6) (.slice A7 x7.length c7) (.slice A8 x8.length c8) (.bool x9) (.int .i64 F) (.int .i64 G) (.int .i64 Z) [⟨9,1,(.slice B0 m0 d0),[],x0.map (fun x=>[Y.str x])⟩,⟨109,3,(.slice B1 m1 d1),L1,x1.map cw.D⟩,⟨81,5,v,L,(x2.take i).map cr.D⟩])) (fun iv _=>x2.length - (intOf iv).toNat)
 case atStart=>exact⟨0,_,[],rfl,Nat.zero_le _,I (by have h:=T5.out;simpa only[List.take_zero,List.map_nil]using h)⟩
 case round =>
  obtain⟨i,v,L,rfl,hi,HT⟩:=hrel
  clear T5
  by_cases h:i<x2.length
  ·
   skip
   have Pw:decide ((i:Int)<(x2.length:Int))=true:=aH
   have hdn:decide (i<x2.length)=true:=by simp[h]
   have dX:=HT.out.cl.de
   have jh:(0:Int)<=(i:Int):=aF
   have oQ:(i:Int)<(x2.length:Int):=aF
   (obtain⟨b1,o1,cz,cD,cE,cB,cF,l8,iz,jG,jD,gb,dS,gy,gF,kP,eN,fi,eO,ed,iF,fD,fE,fG,fK,fN⟩:=cr.el kp.out i h dX;subst gb)
   have Mm:=HFO.out i h
   rw[gF.out]at Mm
   simp only[cr.its,cr.fO]at Mm
   obtain⟨tj,tl,lx,lz,lA,lB,lC,lD,lE,lF,lG,lH,ji,jj,jk⟩:=HT.out.sb
   obtain⟨lP,l4,gM,gN,gH,gO,gP,gQ,gR,gS,gT,gU,fu,fv,fw⟩:=HT.out.cl.box
   go_upto_region 9 with (fail)
   clear tj tl lx lz lA lB lC lD lE lF lG lH ji jj jk lP l4 gM gN gH gO gP gQ gR gS gT gU fu fv fw
   rename World=>wL
   refine cZ fun wr jO=>?_
   have KE:U wL wr:=by rw[<-jO];exact bl
   have OA:=I (show OB wr wL.heap.size (.int .i64 cz) (.int .i64 cD) (.int .i64 cE) (.slice l8 cB.length iz) (.slice jG cF.length jD)from by rw[<-jO];first | exact OB.new _ _ | exact (((((OB.new _ _).yR _).xY _).rV _).rT _).CZ _)
   have TA:=I (HT.out.on KE)
   have Uf:wL.heap.size<wr.heap.size:=OA.out.1
   clear jO
   refine nP (m:=18) (p:=16) (fun j=>match j with | 13=>[10] | _=>[]) (fun j vf wq=>match j with | 0=>((vf 0)=.pointer (some ⟨(w.heap.size+2),2,none⟩)) | 1=>((vf 1)=v) | 2=>((vf 2)=.pointer (some ⟨wL.heap.size,0,none⟩)) | 3=>((vf 3)=.int .i64 cz) | 4=>((vf 4)=.pointer (some ⟨wL.heap.size,1,none⟩)) | 5=>((vf 5)=.int .i64 cD) | 6=>((vf 6)=.pointer (some ⟨wL.heap.size,2,none⟩)) | 7=>((vf 7)=.int .i64 cE) | 8=>((vf 8)=.pointer (some ⟨wL.heap.size,3,none⟩)) | 9=>((vf 9)=.slice l8 cB.length iz) | 10=>(∃(AI:Option Addr) (dI:Nat),(vf 10)=.slice AI (List.length cB) dI/\dK wq 34 6 (.slice AI (List.length cB) dI) [] (cB.map R.D)/\(∀q,iG (.slice AI (List.length cB) dI) [] q->wr.heap.size<=q)) | 11=>((vf 11)=.pointer (some ⟨wL.heap.size,4,none⟩)) | 12=>((vf 12)=.slice jG cF.length jD) | 13=>(∃(AJ:Option Addr) (dJ:Nat),(vf 13)=.slice AJ (List.length cF) dJ/\dK wq 34 6 (.slice AJ (List.length cF) dJ) [] (cF.map R.D)/\(∀q,iG (.slice AJ (List.length cF) dJ) [] q->wr.heap.size<=q/\¬iG (vf 10) [] q)) | 14=>(∃(AI:Option Addr) (dI:Nat) (AJ:Option Addr) (dJ:Nat),(vf 14)=.agg #[.int .i64 cz,.int .i64 cD,.int .i64 cE,.slice AI (List.length cB) dI,.slice AJ (List.length cF) dJ]/\dK wq 34 6 (.slice AI (List.length cB) dI) [] (cB.map R.D)/\dK wq 34 6 (.slice AJ (List.length cF) dJ) [] (cF.map R.D)/\(∀q,iG (.slice AI (List.length cB) dI) [] q->wr.heap.size<=q)/\(∀q,iG (.slice AJ (List.length cF) dJ) [] q->wr.heap.size<=q/\¬iG (.slice AI (List.length cB) dI) [] q)) | 15=>(∃(AI:Option Addr) (dI:Nat) (AJ:Option Addr) (dJ:Nat) (g:Nat),(vf 15)=.slice (some ⟨g,0,none⟩) 1 1/\wr.heap.size<=g/\wq.heap[g]?=some (.cells #[.int .i64 cz,.int .i64 cD,.int .i64 cE,.slice AI (List.length cB) dI,.slice AJ (List.length cF) dJ] 81)/\dK wq 34 6 (.slice AI (List.length cB) dI) [] (cB.map R.D)/\dK wq 34 6 (.slice AJ (List.length cF) dJ) [] (cF.map R.D)/\(∀q,iG (.slice AI (List.length cB) dI) [] q->wr.heap.size<=q)/\(∀q,iG (.slice AJ (List.length cF) dJ) [] q->wr.heap.size<=q/\¬iG (.slice AI (List.length cB) dI) [] q)) | 16=>(∃M:List Nat,dK wq 81 5 (vf 16) (L++M) ((x2.take (i+1)).map cr.D)/\∀q,iG (vf 16) (L++M) q->iG v L q\/wr.heap.size<=q) | 17=>((vf 17)=.pointer (some ⟨(w.heap.size+2),2,none⟩)) | _=>True) (fun wa wb=>U wa wb) (fun wa wb=>Po wr.heap.size wa wb) (fun wq=>tW w (w.heap.size+3) wq (w.heap.size+2) w.heap.size (w.heap.size+1) (.slice B0 m0 d0) (.slice B1 m1 d1) v (.slice A3 x3.length c3) (.string x4) (.int .i64 x5) (.slice A6 x6.length c6) (.slice A7 x7.length c7) (.slice A8 x8.length c8) (.bool x9) (.int .i64 F) (.int .i64 G) (.int .i64 Z) (.slice A0 x0.length c0) (.slice A1 x1.length c1) (.slice (some ⟨b1,o1,none⟩) x2.length c2) (.slice A3 x3.length c3) (.string x4) (.int .i64 x5) (.slice A6 x6.length c6) (.slice A7 x7.length c7) (.slice A8 x8.length c8) (.bool x9) (.int .i64 F) (.int .i64 G) (.int .i64 Z) [⟨9,1,(.slice B0 m0 d0),[],x0.map (fun x=>[Y.str x])⟩,⟨109,3,(.slice B1 m1 d1),L1,x1.map cw.D⟩,⟨81,5,v,L,(x2.take i).map cr.D⟩]/\OB wq wL.heap.size (.int .i64 cz) (.int .i64 cD) (.int .i64 cE) (.slice l8 cB.length iz) (.slice jG cF.length jD)/\U wr wq) (fun wq=>∃wm:World,U wr wm/\wm.grownBy wq v.ownBlock) [(0,some 30),(1,some 31),(2,some 32),(3,some 33),(4,some 34),(5,some 35),(6,some 36),(7,some 37),(8,some 38),(9,some 39),(10,some 40),(11,some 41),(12,some 42),(13,some 43),(14,some 44),(15,some 45),(16,some 46),(17,some 47),(18,none)] rfl aG aG aG aI ?hG ?hR ?hR2 ?hG0 ?hG1 rfl rfl ?hstep ?hp ?hlast
   case hG=>exact⟨TA.out.on bl,OA.out.on bl,bl⟩
   case hG0=>exact fun wa wb hk hg=>⟨hg.1.on hk,hg.2.1.on hk,hg.2.2.trans hk⟩
   case hG1=>exact fun wa wb hk hg=>by obtain⟨wm,h3,h4⟩:=hg;exact⟨wm,h3,yS h4 hk⟩
   case hR =>
    intro j vf wa wb hk hv
    match j,hv with
    | 0,hv=>exact hv
    | 1,hv=>exact hv
    | 2,hv=>exact hv
    | 3,hv=>exact hv
    | 4,hv=>exact hv
    | 5,hv=>exact hv
    | 6,hv=>exact hv
    | 7,hv=>exact hv
    | 8,hv=>exact hv
    | 9,hv=>exact hv
    | 10,hv=>exact (by obtain⟨AI,dI,e,h1,h2⟩:=hv;exact⟨AI,dI,e,h1.OX (qG hk) h2,h2⟩)
    | 11,hv=>exact hv
    | 12,hv=>exact hv
    | 13,hv=>exact (by obtain⟨AJ,dJ,e,h1,h2⟩:=hv;exact⟨AJ,dJ,e,h1.OX (qG hk) (fun q hq=>(h2 q hq).1),h2⟩)
    | 14,hv=>exact (by obtain⟨AI,dI,AJ,dJ,e,h1,h2,h3,h4⟩:=hv;exact⟨AI,dI,AJ,dJ,e,h1.OX (qG hk) h3,h2.OX (qG hk) (fun q hq=>(h4 q hq).1),h3,h4⟩)
    | 15,hv=>exact (by obtain⟨AI,dI,AJ,dJ,g,e,q1,q2,h1,h2,h3,h4⟩:=hv;exact⟨AI,dI,AJ,dJ,g,e,q1,Po.obj (qG hk) q1 q2,h1.OX (qG hk) h3,h2.OX (qG hk) (fun q hq=>(h4 q hq).1),h3,h4⟩)
    | 16,hv=>exact (by obtain⟨M,h1,h2⟩:=hv;exact⟨M,h1.de hk,h2⟩)
    | 17,hv=>exact hv
    | n+18,hv=>exact trivial
   case hR2 =>
    intro j vf wa wb hjp hk hv
    match j,hv with
    | 0,hv=>exact hv
    | 1,hv=>exact hv
    | 2,hv=>exact hv
    | 3,hv=>exact hv
    | 4,hv=>exact hv
    | 5,hv=>exact hv
    | 6,hv=>exact hv
    | 7,hv=>exact hv
    | 8,hv=>exact hv
    | 9,hv=>exact hv
    | 10,hv=>exact (by obtain⟨AI,dI,e,h1,h2⟩:=hv;exact⟨AI,dI,e,h1.OX hk h2,h2⟩)
    | 11,hv=>exact hv
    | 12,hv=>exact hv
    | 13,hv=>exact (by obtain⟨AJ,dJ,e,h1,h2⟩:=hv;exact⟨AJ,dJ,e,h1.OX hk (fun q hq=>(h2 q hq).1),h2⟩)
    | 14,hv=>exact (by obtain⟨AI,dI,AJ,dJ,e,h1,h2,h3,h4⟩:=hv;exact⟨AI,dI,AJ,dJ,e,h1.OX hk h3,h2.OX hk (fun q hq=>(h4 q hq).1),h3,h4⟩)
    | 15,hv=>exact (by obtain⟨AI,dI,AJ,dJ,g,e,q1,q2,h1,h2,h3,h4⟩:=hv;exact⟨AI,dI,AJ,dJ,g,e,q1,Po.obj hk q1 q2,h1.OX hk h3,h2.OX hk (fun q hq=>(h4 q hq).1),h3,h4⟩)
    | 17,hv=>exact hv
    | 16,hv=>exact absurd rfl hjp
    | n+18,hv=>exact trivial
   case hstep =>
    simp only[gZ,Act.put,aa,ab,ae,af,ag,aj]
    refine (dO (i:=0) (i2:=1) (o:=_) rfl ?s0 (dO (i:=1) (i2:=2) (o:=_) rfl ?s1 (dO (i:=2) (i2:=3) (o:=_) rfl ?s2 (dO (i:=3) (i2:=4) (o:=_) rfl ?s3 (dO (i:=4) (i2:=5) (o:=_) rfl ?s4 (dO (i:=5) (i2:=6) (o:=_) rfl ?s5 (dO (i:=6) (i2:=7) (o:=_) rfl ?s6 (dO (i:=7) (i2:=8) (o:=_) rfl ?s7 (dO (i:=8) (i2:=9) (o:=_) rfl ?s8 (dO (i:=9) (i2:=10) (o:=_) rfl ?s9 (dO (i:=10) (i2:=11) (o:=_) rfl ?s10 (dO (i:=11) (i2:=12) (o:=_) rfl ?s11 (dO (i:=12) (i2:=13) (o:=_) rfl ?s12 (dO (i:=13) (i2:=14) (o:=_) rfl ?s13 (dO (i:=14) (i2:=15) (o:=_) rfl ?s14 (dO (i:=15) (i2:=16) (o:=_) rfl ?s15 (tH (p:=16) (p2:=17) (dO (i:=17) (i2:=18) (o:=_) rfl ?s17 (xC aI)))))))))))))))))))
    case s0 =>
     exact tI
    case s2 =>
     exact tI
    case s4 =>
     exact tI
    case s6 =>
     exact tI
    case s8 =>
     exact tI
    case s11 =>
     exact tI
    case s17 =>
     exact tI
    case s1 =>
     intro u wa hG hf K hK
     have g0:=rU hG aG
     have e0:(u 0)=.pointer (some ⟨(w.heap.size+2),2,none⟩):=fU hf 0 aG
     clear hf
     clear hG
     simp only[Act.put,aa,ab,ae,af,ag,aj]at hK |-
     rw[e0]at hK |-
     obtain⟨lP,l4,gM,gN,gH,gO,gP,gQ,gR,gS,gT,gU,fu,fv,fw⟩:=g0.1.cl.box
     clear g0
     go_simp
     exact hK.out _ _ (U.refl _) rfl
    case s3 =>
     intro u wa hG hf K hK
     have g0:=rU hG aG
     have e2:(u 2)=.pointer (some ⟨wL.heap.size,0,none⟩):=fU hf 2 aG
     clear hf
     clear hG
     simp only[Act.put,aa,ab,ae,af,ag,aj]at hK |-
     rw[e2]at hK |-
     obtain⟨yM,Vu,q0,q1,q2,q3,q4⟩:=g0.2.1
     clear g0
     go_simp
     exact hK.out _ _ (U.refl _) rfl
    case s5 =>
     intro u wa hG hf K hK
     have g0:=rU hG aG
     have e4:(u 4)=.pointer (some ⟨wL.heap.size,1,none⟩):=fU hf 4 aG
     clear hf
     clear hG
     simp only[Act.put,aa,ab,ae,af,ag,aj]at hK |-
     rw[e4]at hK |-
     obtain⟨yM,Vu,q0,q1,q2,q3,q4⟩:=g0.2.1
     clear g0
     go_simp
     exact hK.out _ _ (U.refl _) rfl
    case s7 =>
     intro u wa hG hf K hK
     have g0:=rU hG aG
     have e6:(u 6)=.pointer (some ⟨wL.heap.size,2,none⟩):=fU hf 6 aG
     clear hf
     clear hG
     simp only[Act.put,aa,ab,ae,af,ag,aj]at hK |-
     rw[e6]at hK |-
     obtain⟨yM,Vu,q0,q1,q2,q3,q4⟩:=g0.2.1
     clear g0
     go_simp
     exact hK.out _ _ (U.refl _) rfl
    case s9 =>
     intro u wa hG hf K hK
     have g0:=rU hG aG
     have e8:(u 8)=.pointer (some ⟨wL.heap.size,3,none⟩):=fU hf 8 aG
     clear hf
     clear hG
     simp only[Act.put,aa,ab,ae,af,ag,aj]at hK |-
     rw[e8]at hK |-
     obtain⟨yM,Vu,q0,q1,q2,q3,q4⟩:=g0.2.1
     clear g0
     go_simp
     exact hK.out _ _ (U.refl _) rfl
    case s12 =>
     intro u wa hG hf K hK
     have g0:=rU hG aG
     have jc:(u 11)=.pointer (some ⟨wL.heap.size,4,none⟩):=fU hf 11 aG
     clear hf
     clear hG
     simp only[Act.put,aa,ab,ae,af,ag,aj]at hK |-
     rw[jc]at hK |-
     obtain⟨yM,Vu,q0,q1,q2,q3,q4⟩:=g0.2.1
     clear g0
     go_simp
     exact hK.out _ _ (U.refl _) rfl
    case s10 =>
     intro u wa hG hf K hK
     have g0:=rU hG aG
     have e9:(u 9)=.slice l8 cB.length iz:=fU hf 9 aG
     clear hf
     clear hG
     simp only[Act.put,aa,ab,ae,af,ag,aj]at hK |-
     rw[e9]at hK |-
     have aa9:=g0.1.cl.de
     have tu:=U.size g0.2.2
     go_simp
     go_at_call 90
     refine (sI cB S _ _ _ (Row.de aa9 ed.out) aF).mono ?_
     rintro e w2 ⟨vv,rfl,hO,hn,gC⟩
     obtain⟨AI,dI,L9,hvv,-⟩:=hO.ownRow
     rw[ar]at hvv
     subst hvv
     exact hK.out _ _ gC ⟨AI,dI,rfl,hO,fun q hq=>aw tu (hn q hq)⟩
    case s13 =>
     intro u wa hG hf K hK
     have g0:=rU hG aG
     have jd:(u 12)=.slice jG cF.length jD:=fU hf 12 aG
     have iE:∃(AI:Option Addr) (dI:Nat),(u 10)=.slice AI (List.length cB) dI/\dK wa 34 6 (.slice AI (List.length cB) dI) [] (cB.map R.D)/\(∀q,iG (.slice AI (List.length cB) dI) [] q->wr.heap.size<=q):=fU hf 10 aG
     clear hf
     clear hG
     simp only[Act.put,aa,ab,ae,af,ag,aj]at hK |-
     rw[jd]at hK |-
     obtain⟨AI,dI,iE,hI,hIl⟩:=iE
     rw[iE]at hK |-
     have aa9:=g0.1.cl.de
     have tu:=U.size g0.2.2
     go_simp
     go_at_call 90
     refine (sI cF S _ _ _ (Row.de aa9 iF.out) aF).mono ?_
     rintro e w2 ⟨vv,rfl,hO,hn,gC⟩
     obtain⟨AJ,dJ,L9,hvv,-⟩:=hO.ownRow
     rw[ar]at hvv
     subst hvv
     exact hK.out _ _ gC ⟨AJ,dJ,rfl,hO,fun q hq=>⟨aw tu (hn q hq),by show ¬iG (u 10) [] q;rw[iE];intro hc;have h1:=hI.lt q hc;have h2:=hn q hq;omega⟩⟩
    case s14 =>
     intro u wa hG hf K hK
     have e3:(u 3)=.int .i64 cz:=fU hf 3 aG
     have e5:(u 5)=.int .i64 cD:=fU hf 5 aG
     have e7:(u 7)=.int .i64 cE:=fU hf 7 aG
     have iE:∃(AI:Option Addr) (dI:Nat),(u 10)=.slice AI (List.length cB) dI/\dK wa 34 6 (.slice AI (List.length cB) dI) [] (cB.map R.D)/\(∀q,iG (.slice AI (List.length cB) dI) [] q->wr.heap.size<=q):=fU hf 10 aG
     have e13:∃(AJ:Option Addr) (dJ:Nat),(u 13)=.slice AJ (List.length cF) dJ/\dK wa 34 6 (.slice AJ (List.length cF) dJ) [] (cF.map R.D)/\(∀q,iG (.slice AJ (List.length cF) dJ) [] q->wr.heap.size<=q/\¬iG (u 10) [] q):=fU hf 13 aG
     clear hf
     clear hG
     simp only[Act.put,aa,ab,ae,af,ag,aj]at hK |-
     rw[e3]at hK |-
     rw[e5]at hK |-
     rw[e7]at hK |-
     obtain⟨AI,dI,iE,hI,hIl⟩:=iE
     rw[iE]at hK |-
     obtain⟨AJ,dJ,e13,hJ,hJl⟩:=e13
     rw[e13]at hK |-
     rw[iE]at hJl
     go_simp
     exact hK.out _ _ (U.refl _) ⟨AI,dI,AJ,dJ,rfl,hI,hJ,hIl,hJl⟩
    case s15 =>
     intro u wa hG hf K hK
     have g0:=rU hG aG
     have e14:∃(AI:Option Addr) (dI:Nat) (AJ:Option Addr) (dJ:Nat),(u 14)=.agg #[.int .i64 cz,.int .i64 cD,.int .i64 cE,.slice AI (List.length cB) dI,.slice AJ (List.length cF) dJ]/\dK wa 34 6 (.slice AI (List.length cB) dI) [] (cB.map R.D)/\dK wa 34 6 (.slice AJ (List.length cF) dJ) [] (cF.map R.D)/\(∀q,iG (.slice AI (List.length cB) dI) [] q->wr.heap.size<=q)/\(∀q,iG (.slice AJ (List.length cF) dJ) [] q->wr.heap.size<=q/\¬iG (.slice AI (List.length cB) dI) [] q):=fU hf 14 aG
     clear hf
     clear hG
     simp only[Act.put,aa,ab,ae,af,ag,aj]at hK |-
     obtain⟨AI,dI,AJ,dJ,e14,hI,hJ,hIl,hJl⟩:=e14
     rw[e14]at hK |-
     have tu:=U.size g0.2.2
     have jl:U wa (wa.alloc (.cells #[.int .i64 cz,.int .i64 cD,.int .i64 cE,.slice AI (List.length cB) dI,.slice AJ (List.length cF) dJ] 81)):=bl
     go_simp
     exact hK.out _ _ jl ⟨AI,dI,AJ,dJ,wa.heap.size,rfl,tu,heap_alloc_new _ _,hI.de jl,hJ.de jl,hIl,hJl⟩
   case hp =>
    simp only[gZ,Act.put,aa,ab,ae,af,ag,aj]
    intro u wa hG hf K hK
    have e1:(u 1)=v:=fU hf 1 aG
    have e15:∃(AI:Option Addr) (dI:Nat) (AJ:Option Addr) (dJ:Nat) (g:Nat),(u 15)=.slice (some ⟨g,0,none⟩) 1 1/\wr.heap.size<=g/\wa.heap[g]?=some (.cells #[.int .i64 cz,.int .i64 cD,.int .i64 cE,.slice AI (List.length cB) dI,.slice AJ (List.length cF) dJ] 81)/\dK wa 34 6 (.slice AI (List.length cB) dI) [] (cB.map R.D)/\dK wa 34 6 (.slice AJ (List.length cF) dJ) [] (cF.map R.D)/\(∀q,iG (.slice AI (List.length cB) dI) [] q->wr.heap.size<=q)/\(∀q,iG (.slice AJ (List.length cF) dJ) [] q->wr.heap.size<=q/\¬iG (.slice AI (List.length cB) dI) [] q):=fU hf 15 aG
    clear hf
    rw[e1]at hK |-
    obtain⟨AI,dI,AJ,dJ,g,e15,Xa,hg2,hI,hJ,hIl,hJl⟩:=e15
    rw[e15]at hK |-
    obtain⟨AI2,cI2,LI,eI,rI,nI2,mI⟩:=hI.ownRow
    obtain⟨AJ2,cJ2,LJ,eJ,rJ,nJ2,mJ⟩:=hJ.ownRow
    simp only[ar]at eI eJ
    injection eI with eI1 eI2 eI3
    injection eJ with eJ1 eJ2 eJ3
    subst eI1 eI3 eJ1 eJ3
    have hov:=cr.kL eN fi eO rI rJ
    have DJ:(LI++LJ).Nodup:=ke nI2 nJ2 (fun a ha hb=>(hJl a (mJ a hb)).2 (mI a ha))
    have om:∀a,a∈LI++LJ->wr.heap.size<=a:=fun a ha=>(List.mem_append.1 ha).elim (fun q=>hIl a (mI a q)) (fun q=>(hJl a (mJ a q)).1)
    have hold:=hG.1.cl.gv.own ⟨81,5,v,L,(x2.take i).map cr.D⟩ aJ
    have hlv:=(TA.out.cl.gv.own ⟨81,5,v,L,(x2.take i).map cr.D⟩ aJ).lt
    have mi:Src wa 5 (some ⟨g,0,none⟩) 1 (LI++LJ) [cr.D (.mk cz cD cE cB cF)] [.int .i64 cz,.int .i64 cD,.int .i64 cE,.slice AI (List.length cB) dI,.slice AJ (List.length cF) dJ]:=⟨rfl,(fun h=>(by cases h)),⟨LI++LJ,[],[.int .i64 cz,.int .i64 cD,.int .i64 cE,.slice AI (List.length cB) dI,.slice AJ (List.length cF) dJ],[],by simp,by simp,rfl,hov,rfl,rfl⟩,DJ,fun ad hA j u hu=>by obtain rfl:=Option.some.inj hA;rw[addr_add];unfold World.cell?;simp only[hg2];simpa using hu⟩
    refine jq (.tmp 31) (.tmp 45) 26 rfl 81 io (.agg #[.int .i64 0,.int .i64 0,.int .i64 0,.slice none 0 0,.slice none 0 0]) 5 72 underlying26 hio zo0 zo1 zo2 aI aI hold mi 1 rfl rfl (fun b hb hm=>by have h1:=hlv b hb;have h2:=om b hm;omega) bZ bK (fun v9 w9 mq mr lp=>?_)
    (try simp only[Act.put,aa,ab,ae,af,ag,aj])
    have tu:=U.size hG.2.2
    refine hK.out _ _ ⟨mr.size,fun k hk hl=>mr.block k hl (fun e=>by have:=hlv k (Or.inl e.symm);omega)⟩ ⟨wa,hG.2.2,mr⟩ ⟨LI++LJ,by rw[Jj cr.D h,gF.out];first | exact mq | (rw[List.map_take];exact mq),fun q hq=>?_⟩
    rcases hq with hq | hq
    ·
     rcases lp q hq with e | e
     ·
      exact Or.inl (Or.inl e)
     ·
      exact Or.inr aF
    ·
     rcases List.mem_append.1 hq with hq | hq
     ·
      exact Or.inl (Or.inr hq)
     ·
      exact Or.inr (om q hq)
   case hlast =>
    simp only[gZ,Act.put,aa,ab,ae,af,ag,aj]
    intro u wa hG hf K hK
    have e16:∃M:List Nat,dK wa 81 5 (u 16) (L++M) ((x2.take (i+1)).map cr.D)/\∀q,iG (u 16) (L++M) q->iG v L q\/wr.heap.size<=q:=hf 16 aI
    have e17:u 17=.pointer (some ⟨(w.heap.size+2),2,none⟩):=hf 17 aI
    clear hf
    obtain⟨M,hO,yT⟩:=e16
    obtain⟨A9,n9,c9,e16⟩:∃A9 n9 c9,u 16=.slice A9 n9 c9:=by obtain⟨A9,c9,L9,tJ,-⟩:=hO.ownRow;exact⟨_,_,_,tJ⟩
    rw[e16]at hO yT hK |-
    rw[e17]at hK |-
    obtain⟨wm,h2,h3⟩:=hG
    have hGR:=tW.grow (l:=[⟨9,1,(.slice B0 m0 d0),[],x0.map (fun x=>[Y.str x])⟩,⟨109,3,(.slice B1 m1 d1),L1,x1.map cw.D⟩]) (e:=⟨81,5,v,L,(x2.take i).map cr.D⟩) (e':=⟨81,5,.slice A9 n9 c9,L++M,(x2.take (i+1)).map cr.D⟩) TA.out h2 h3 hO yT
    obtain⟨GB,GN⟩:=hGR
    have HGN:=I (GN 2 (.slice A9 n9 c9) (GB.rV _))
    clear GN h2 h3 hO yT
    obtain⟨ale,alf,afs,aft,afu,afv,afw,afx,afy,afz,afA,afB,aa6,aa7,aa8⟩:=GB
    go_simp
    refine hK.out undef _ ?_
    clear hK
    exact X1
  ·
   skip
   have Pw:decide ((i:Int)<(x2.length:Int))=false:=aH
   have hdn:decide (i<x2.length)=false:=aH
   obtain⟨B2,m2,d2,rfl⟩:∃A9 n9 c9,v=.slice A9 n9 c9:=by obtain⟨A9,c9,L9,tJ,-⟩:=(HT.out.cl.gv.own ⟨81,5,v,L,(x2.take i).map cr.D⟩ aJ).ownRow;exact⟨_,_,_,tJ⟩
   have T6:=I (show tW w (w.heap.size+3) wr (w.heap.size+2) w.heap.size (w.heap.size+1) (.slice B0 m0 d0) (.slice B1 m1 d1) (.slice B2 m2 d2) (.slice A3 x3.length c3) (.string x4) (.int .i64 x5) (.slice A6 x6.length c6) (.slice A7 x7.length c7) (.slice A8 x8.length c8) (.bool x9) (.int .i64 F) (.int .i64 G) (.int .i64 Z) (.slice A0 x0.length c0) (.slice A1 x1.length c1) (.slice A2 x2.length c2) (.slice A3 x3.length c3) (.string x4) (.int .i64 x5) (.slice A6 x6.length c6) (.slice A7 x7.length c7) (.slice A8 x8.length c8) (.bool x9) (.int .i64 F) (.int .i64 G) (.int .i64 Z) [⟨9,1,(.slice B0 m0 d0),[],x0.map (fun x=>[Y.str x])⟩,⟨109,3,(.slice B1 m1 d1),L1,x1.map cw.D⟩,⟨81,5,(.slice B2 m2 d2),L,x2.map cr.D⟩]from by have h:=HT.out;rw[List.take_of_length_le (show x2.length<=i by omega)]at h;exact h)
   clear HT
   obtain⟨tj,tl,lx,lz,lA,lB,lC,lD,lE,lF,lG,lH,ji,jj,jk⟩:=T6.out.sb
   obtain⟨lP,l4,gM,gN,gH,gO,gP,gQ,gR,gS,gT,gU,fu,fv,fw⟩:=T6.out.cl.box
   go_upto_region 10 with (fail)
   go_upto_region 11 with (go_at_call 90;refine (sI x3 S _ _ _ (Row.de T6.out.cl.de Gm.out) XY).mono ?_;rintro e w9 ⟨v9,rfl,mq,Ub,qz⟩;have ng:=I mq;have XZ:=I Ub;have Ml:=I qz;clear mq Ub qz;obtain⟨B3,m3,d3,rfl⟩:∃A9 n9 c9,v9=.slice A9 n9 c9:=bN;have nM:=I (T6.out.on Ml.out);obtain⟨oR,oS,kR,kS,kT,kU,kV,kW,kX,kY,kZ,lf,jA,jB,jC⟩:=nM.out.cl.box)
   clear tj tl lx lz lA lB lC lD lE lF lG lH ji jj jk lP l4 gM gN gH gO gP gQ gR gS gT gU fu fv fw
   refine cZ fun Vr Qo=>?_
   have T7:=I (show tW w (w.heap.size+3) Vr (w.heap.size+2) w.heap.size (w.heap.size+1) (.slice B0 m0 d0) (.slice B1 m1 d1) (.slice B2 m2 d2) (.slice B3 m3 d3) (.string x4) (.int .i64 x5) (.slice A6 x6.length c6) (.slice A7 x7.length c7) (.slice A8 x8.length c8) (.bool x9) (.int .i64 F) (.int .i64 G) (.int .i64 Z) (.slice A0 x0.length c0) (.slice A1 x1.length c1) (.slice A2 x2.length c2) (.slice A3 x3.length c3) (.string x4) (.int .i64 x5) (.slice A6 x6.length c6) (.slice A7 x7.length c7) (.slice A8 x8.length c8) (.bool x9) (.int .i64 F) (.int .i64 G) (.int .i64 Z) [⟨9,1,(.slice B0 m0 d0),[],x0.map (fun x=>[Y.str x])⟩,⟨109,3,(.slice B1 m1 d1),L1,x1.map cw.D⟩,⟨81,5,(.slice B2 m2 d2),L,x2.map cr.D⟩,⟨34,6,(.slice B3 m3 d3),[],x3.map R.D⟩]from by rw[<-Qo];exact T6.out.next Ml.out ng.out XZ.out 3 (nM.out.cl.box.rT _))
   clear Qo Ml ng XZ nM T6 oR oS kR kS kT kU kV kW kX kY kZ lf jA jB jC
   obtain⟨tj,tl,lx,lz,lA,lB,lC,lD,lE,lF,lG,lH,ji,jj,jk⟩:=T7.out.sb
   obtain⟨lP,l4,gM,gN,gH,gO,gP,gQ,gR,gS,gT,gU,fu,fv,fw⟩:=T7.out.cl.box
   have py:=I (dK.tV Vr 9 1)
   obtain⟨nw,mi⟩:=Row.src (mX x6) (Row.de (U.trans T7.out.cl.de (show U Vr (Vr.alloc (.cells #[] 9))from bl)) GW.out)
   rw[ar]at mi
   have sv:=I mi
   clear mi
   go_wp2_with (at_builtin;refine fg rfl (.tmp 52) (.tmp 54) 24 rfl 9 is (.string ByteArray.empty) 1 16 underlying24 Qa Qb Qc Qd aI aI py.out sv.out c6 rfl rfl (fun b _ h=>by cases h) bp bf ?_)
   intro v9 w9 mq mr lp
   have HQ:=I (kQ mr lp)
   have ng:=I (show dK w9 9 1 v9 [] (x6.map (fun x=>[Y.str x]))from mq)
   clear mq mr lp py sv
   clear tj tl lx lz lA lB lC lD lE lF lG lH ji jj jk lP l4 gM gN gH gO gP gQ gR gS gT gU fu fv fw
   obtain⟨B6,m6,d6,rfl⟩:∃A9 n9 c9,v9=.slice A9 n9 c9:=by obtain⟨A9,c9,L9,tJ,-⟩:=ng.out.ownRow;exact⟨_,_,_,tJ⟩
   have nM:=I (T7.out.on HQ.out.1)
   obtain⟨tY,tZ,oo,oq,ou,ov,ow,ox,oy,oz,oA,oB,lT,lU,lV⟩:=nM.out.sb
   obtain⟨oR,oS,kR,kS,kT,kU,kV,kW,kX,kY,kZ,lf,jA,jB,jC⟩:=nM.out.cl.box
   go_upto_region 12 with (fail)
   refine cZ fun Vs Qp=>?_
   have T8:=I (show tW w (w.heap.size+3) Vs (w.heap.size+2) w.heap.size (w.heap.size+1) (.slice B0 m0 d0) (.slice B1 m1 d1) (.slice B2 m2 d2) (.slice B3 m3 d3) (.string x4) (.int .i64 x5) (.slice B6 m6 d6) (.slice A7 x7.length c7) (.slice A8 x8.length c8) (.bool x9) (.int .i64 F) (.int .i64 G) (.int .i64 Z) (.slice A0 x0.length c0) (.slice A1 x1.length c1) (.slice A2 x2.length c2) (.slice A3 x3.length c3) (.string x4) (.int .i64 x5) (.slice A6 x6.length c6) (.slice A7 x7.length c7) (.slice A8 x8.length c8) (.bool x9) (.int .i64 F) (.int .i64 G) (.int .i64 Z) [⟨9,1,(.slice B0 m0 d0),[],x0.map (fun x=>[Y.str x])⟩,⟨109,3,(.slice B1 m1 d1),L1,x1.map cw.D⟩,⟨81,5,(.slice B2 m2 d2),L,x2.map cr.D⟩,⟨34,6,(.slice B3 m3 d3),[],x3.map R.D⟩,⟨9,1,(.slice B6 m6 d6),[],x6.map (fun x=>[Y.str x])⟩]from by rw[<-Qp];exact T7.out.next HQ.out.1 ng.out HQ.out.2 6 (nM.out.cl.box.tC _))
   clear tY tZ oo oq ou ov ow ox oy oz oA oB lT lU lV oR oS kR kS kT kU kV kW kX kY kZ lf jA jB jC
   clear Qp HQ ng nM T7
   obtain⟨tj,tl,lx,lz,lA,lB,lC,lD,lE,lF,lG,lH,ji,jj,jk⟩:=T8.out.sb
   obtain⟨lP,l4,gM,gN,gH,gO,gP,gQ,gR,gS,gT,gU,fu,fv,fw⟩:=T8.out.cl.box
   have py:=I (dK.tV Vs 9 1)
   obtain⟨nw,mi⟩:=Row.src (mX x7) (Row.de (U.trans T8.out.cl.de (show U Vs (Vs.alloc (.cells #[] 9))from bl)) Vp.out)
   rw[ar]at mi
   have sv:=I mi
   clear mi
   go_wp2_with (at_builtin;refine fg rfl (.tmp 57) (.tmp 59) 24 rfl 9 is (.string ByteArray.empty) 1 16 underlying24 Qa Qb Qc Qd aI aI py.out sv.out c7 rfl rfl (fun b _ h=>by cases h) bp bf ?_)
   intro v9 w9 mq mr lp
   have HQ:=I (kQ mr lp)
   have ng:=I (show dK w9 9 1 v9 [] (x7.map (fun x=>[Y.str x]))from mq)
   clear mq mr lp py sv
   clear tj tl lx lz lA lB lC lD lE lF lG lH ji jj jk lP l4 gM gN gH gO gP gQ gR gS gT gU fu fv fw
   obtain⟨B7,m7,d7,rfl⟩:∃A9 n9 c9,v9=.slice A9 n9 c9:=by obtain⟨A9,c9,L9,tJ,-⟩:=ng.out.ownRow;exact⟨_,_,_,tJ⟩
   have nM:=I (T8.out.on HQ.out.1)
   obtain⟨tY,tZ,oo,oq,ou,ov,ow,ox,oy,oz,oA,oB,lT,lU,lV⟩:=nM.out.sb
   obtain⟨oR,oS,kR,kS,kT,kU,kV,kW,kX,kY,kZ,lf,jA,jB,jC⟩:=nM.out.cl.box
   go_upto_region 13 with (fail)
   refine cZ fun Vt Qq=>?_
   have T9:=I (show tW w (w.heap.size+3) Vt (w.heap.size+2) w.heap.size (w.heap.size+1) (.slice B0 m0 d0) (.slice B1 m1 d1) (.slice B2 m2 d2) (.slice B3 m3 d3) (.string x4) (.int .i64 x5) (.slice B6 m6 d6) (.slice B7 m7 d7) (.slice A8 x8.length c8) (.bool x9) (.int .i64 F) (.int .i64 G) (.int .i64 Z) (.slice A0 x0.length c0) (.slice A1 x1.length c1) (.slice A2 x2.length c2) (.slice A3 x3.length c3) (.string x4) (.int .i64 x5) (.slice A6 x6.length c6) (.slice A7 x7.length c7) (.slice A8 x8.length c8) (.bool x9) (.int .i64 F) (.int .i64 G) (.int .i64 Z) [⟨9,1,(.slice B0 m0 d0),[],x0.map (fun x=>[Y.str x])⟩,⟨109,3,(.slice B1 m1 d1),L1,x1.map cw.D⟩,⟨81,5,(.slice B2 m2 d2),L,x2.map cr.D⟩,⟨34,6,(.slice B3 m3 d3),[],x3.map R.D⟩,⟨9,1,(.slice B6 m6 d6),[],x6.map (fun x=>[Y.str x])⟩,⟨9,1,(.slice B7 m7 d7),[],x7.map (fun x=>[Y.str x])⟩]from by rw[<-Qq];exact T8.out.next HQ.out.1 ng.out HQ.out.2 7 (nM.out.cl.box.LD _))
   clear tY tZ oo oq ou ov ow ox oy oz oA oB lT lU lV oR oS kR kS kT kU kV kW kX kY kZ lf jA jB jC
   clear Qq HQ ng nM T8
   obtain⟨tj,tl,lx,lz,lA,lB,lC,lD,lE,lF,lG,lH,ji,jj,jk⟩:=T9.out.sb
   obtain⟨lP,l4,gM,gN,gH,gO,gP,gQ,gR,gS,gT,gU,fu,fv,fw⟩:=T9.out.cl.box
   have py:=I (dK.tV Vt 76 2)
   obtain⟨nw,mi⟩:=Row.src (GX x8) (Row.de (U.trans T9.out.cl.de (show U Vt (Vt.alloc (.cells #[] 76))from bl)) OW.out)
   rw[ar]at mi
   have sv:=I mi
   clear mi
   go_wp2_with (at_builtin;refine fg rfl (.tmp 62) (.tmp 64) 28 rfl 76 ia (.agg #[.int .i64 0,.int .i64 0]) 2 16 underlying28 hia za0 za1 za2 aI aI py.out sv.out c8 rfl rfl (fun b _ h=>by cases h) bp bf ?_)
   intro v9 w9 mq mr lp
   have HQ:=I (kQ mr lp)
   have ng:=I (show dK w9 76 2 v9 [] (x8.map cV.D)from mq)
   clear mq mr lp py sv
   clear tj tl lx lz lA lB lC lD lE lF lG lH ji jj jk lP l4 gM gN gH gO gP gQ gR gS gT gU fu fv fw
   obtain⟨B8,m8,d8,rfl⟩:∃A9 n9 c9,v9=.slice A9 n9 c9:=by obtain⟨A9,c9,L9,tJ,-⟩:=ng.out.ownRow;exact⟨_,_,_,tJ⟩
   have nM:=I (T9.out.on HQ.out.1)
   obtain⟨tY,tZ,oo,oq,ou,ov,ow,ox,oy,oz,oA,oB,lT,lU,lV⟩:=nM.out.sb
   obtain⟨oR,oS,kR,kS,kT,kU,kV,kW,kX,kY,kZ,lf,jA,jB,jC⟩:=nM.out.cl.box
   go_upto_region 14 with (fail)
   refine cZ fun Fu Hb=>?_
   have Mn:=I (show tW w (w.heap.size+3) Fu (w.heap.size+2) w.heap.size (w.heap.size+1) (.slice B0 m0 d0) (.slice B1 m1 d1) (.slice B2 m2 d2) (.slice B3 m3 d3) (.string x4) (.int .i64 x5) (.slice B6 m6 d6) (.slice B7 m7 d7) (.slice B8 m8 d8) (.bool x9) (.int .i64 F) (.int .i64 G) (.int .i64 Z) (.slice A0 x0.length c0) (.slice A1 x1.length c1) (.slice A2 x2.length c2) (.slice A3 x3.length c3) (.string x4) (.int .i64 x5) (.slice A6 x6.length c6) (.slice A7 x7.length c7) (.slice A8 x8.length c8) (.bool x9) (.int .i64 F) (.int .i64 G) (.int .i64 Z) [⟨9,1,(.slice B0 m0 d0),[],x0.map (fun x=>[Y.str x])⟩,⟨109,3,(.slice B1 m1 d1),L1,x1.map cw.D⟩,⟨81,5,(.slice B2 m2 d2),L,x2.map cr.D⟩,⟨34,6,(.slice B3 m3 d3),[],x3.map R.D⟩,⟨9,1,(.slice B6 m6 d6),[],x6.map (fun x=>[Y.str x])⟩,⟨9,1,(.slice B7 m7 d7),[],x7.map (fun x=>[Y.str x])⟩,⟨76,2,(.slice B8 m8 d8),[],x8.map cV.D⟩]from by rw[<-Hb];exact T9.out.next HQ.out.1 ng.out HQ.out.2 8 (nM.out.cl.box.IZ _))
   clear tY tZ oo oq ou ov ow ox oy oz oA oB lT lU lV oR oS kR kS kT kU kV kW kX kY kZ lf jA jB jC
   clear Hb HQ ng nM T9
   have Ku:=I Mn.out.rb
   obtain⟨tj,tl,lx,lz,lA,lB,lC,lD,lE,lF,lG,lH,ji,jj,jk⟩:=Mn.out.sb
   obtain⟨lP,l4,gM,gN,gH,gO,gP,gQ,gR,gS,gT,gU,fu,fv,fw⟩:=Mn.out.cl.box
   refine wp_region_lit ?_
   refine wpList_plain rfl fun K hK=>?_
   go_simp
   refine hK _ _ ?_
   refine wpList_store_mid rfl 30 (.tmp 2) (.tmp 67) rfl (w.heap.size+1) 0 #[.slice B0 m0 d0,.slice B1 m1 d1,.slice B2 m2 d2,.slice B3 m3 d3,.string x4,.int .i64 x5,.slice B6 m6 d6,.slice B7 m7 d7,.slice B8 m8 d8,.bool x9,.int .i64 F,.int .i64 G,.int .i64 Z] rfl rfl Ku.out.there aG aW ?_
   refine vC fun wz mW=>?_
   replace mW:wz=(((((((((((((Fu.setCell ⟨w.heap.size+1,0,none⟩ (.slice B0 m0 d0)).setCell ⟨w.heap.size+1,1,none⟩ (.slice B1 m1 d1)).setCell ⟨w.heap.size+1,2,none⟩ (.slice B2 m2 d2)).setCell ⟨w.heap.size+1,3,none⟩ (.slice B3 m3 d3)).setCell ⟨w.heap.size+1,4,none⟩ (.string x4)).setCell ⟨w.heap.size+1,5,none⟩ (.int .i64 x5)).setCell ⟨w.heap.size+1,6,none⟩ (.slice B6 m6 d6)).setCell ⟨w.heap.size+1,7,none⟩ (.slice B7 m7 d7)).setCell ⟨w.heap.size+1,8,none⟩ (.slice B8 m8 d8)).setCell ⟨w.heap.size+1,9,none⟩ (.bool x9)).setCell ⟨w.heap.size+1,10,none⟩ (.int .i64 F)).setCell ⟨w.heap.size+1,11,none⟩ (.int .i64 G)).setCell ⟨w.heap.size+1,12,none⟩ (.int .i64 Z)):=mW
   have Hc:∀y,(w.heap.size+1)≠y->wz.heap[y]?=Fu.heap[y]?:=fun y hy=>by rw[mW,dY 12 _ hy,dY 11 _ hy,dY 10 _ hy,dY 9 _ hy,dY 8 _ hy,dY 7 _ hy,dY 6 _ hy,dY 5 _ hy,dY 4 _ hy,dY 3 _ hy,dY 2 _ hy,dY 1 _ hy,dY 0 _ hy]
   have zx:wz.heap.size=Fu.heap.size:=by rw[mW];simp
   have PZ:SB wz (w.heap.size+1) (.slice B0 m0 d0) (.slice B1 m1 d1) (.slice B2 m2 d2) (.slice B3 m3 d3) (.string x4) (.int .i64 x5) (.slice B6 m6 d6) (.slice B7 m7 d7) (.slice B8 m8 d8) (.bool x9) (.int .i64 F) (.int .i64 G) (.int .i64 Z):=by rw[mW];exact ((((((((((((Ku.out.yR _).xY _).rV _).rT _).CZ _).Ps _).tC _).LD _).IZ _).Uy _).Kr _).Ks _).Gy _
   have sS:U w wz:=by rw[mW];exact (Below.setCell (Below.setCell (Below.setCell (Below.setCell (Below.setCell (Below.setCell (Below.setCell (Below.setCell (Below.setCell (Below.setCell (Below.setCell (Below.setCell (Below.setCell Mn.out.cl.de (show w.heap.size<=w.heap.size+1 by omega) _) (show w.heap.size<=w.heap.size+1 by omega) _) (show w.heap.size<=w.heap.size+1 by omega) _) (show w.heap.size<=w.heap.size+1 by omega) _) (show w.heap.size<=w.heap.size+1 by omega) _) (show w.heap.size<=w.heap.size+1 by omega) _) (show w.heap.size<=w.heap.size+1 by omega) _) (show w.heap.size<=w.heap.size+1 by omega) _) (show w.heap.size<=w.heap.size+1 by omega) _) (show w.heap.size<=w.heap.size+1 by omega) _) (show w.heap.size<=w.heap.size+1 by omega) _) (show w.heap.size<=w.heap.size+1 by omega) _) (show w.heap.size<=w.heap.size+1 by omega) _)
   have hez:gL w.heap.size wz [⟨9,1,(.slice B0 m0 d0),[],x0.map (fun x=>[Y.str x])⟩,⟨109,3,(.slice B1 m1 d1),L1,x1.map cw.D⟩,⟨81,5,(.slice B2 m2 d2),L,x2.map cr.D⟩,⟨34,6,(.slice B3 m3 d3),[],x3.map R.D⟩,⟨9,1,(.slice B6 m6 d6),[],x6.map (fun x=>[Y.str x])⟩,⟨9,1,(.slice B7 m7 d7),[],x7.map (fun x=>[Y.str x])⟩,⟨76,2,(.slice B8 m8 d8),[],x8.map cV.D⟩]:=(Mn.out.cl.gv.keep aF (fun e he x hx=>Hc x (by have:=Mn.out.cl.gv.low e he x hx;omega))).afj aF
   clear tj tl lx lz lA lB lC lD lE lF lG lH ji jj jk lP l4 gM gN gH gO gP gQ gR gS gT gU fu fv fw
   obtain⟨-,-,e0,e1,e2,e3,e4,e5,e6,e7,e8,e9,iE,jc,jd⟩:=PZ
   clear mW Ku Hc zx
   refine wpList_nil ?_
   go_simp
   rename_i Xi
   refine Xi _ _ ?_
   clear Xi hK
   refine wp_ret ?_
   exact bodyPost_ret (v:=.agg #[.slice B0 m0 d0,.slice B1 m1 d1,.slice B2 m2 d2,.slice B3 m3 d3,.string x4,.int .i64 x5,.slice B6 m6 d6,.slice B7 m7 d7,.slice B8 m8 d8,.bool x9,.int .i64 F,.int .i64 G,.int .i64 Z]) (by simp[results,results33,e0,e1,e2,e3,e4,e5,e6,e7,e8,e9,iE,jc,jd,go_sem];try rfl) rfl ⟨_,_,_,_,_,_,_,_,_,_,_,_,_,_,rfl,hez,sS⟩
end Go.Proofs.YtjngkknbpfgdcaaGreatDoor
