import Derived.Test.YtjngkknbpfgdcaaGreatDoorPr
import Derived.Test.YtjngkknbpfgdcaaGreatDoorPNb
import Derived.Test.YtjngkknbpfgdcaaGreatDoorPMActive
set_option linter.unusedVariables false
set_option linter.unusedSimpArgs false
set_option maxRecDepth 100000
set_option maxHeartbeats 8000000
namespace Go.Proofs.YtjngkknbpfgdcaaGreatDoor
open Go.RowKit
def Zg (N:Nat) (wa wb:World):Prop:=wa.heap.size<=wb.heap.size/\∀k,N<=k->k<wa.heap.size->wb.heap[k]?=wa.heap[k]?
theorem rH {N:Nat} {wa wb:World} (h:cE wa wb):Zg N wa wb:=⟨h.size,fun k _ hl=>Below.block h k hl⟩
theorem Zg.obj {N g:Nat} {wa wb:World} {o:Obj} (h:Zg N wa wb) (hN:N<=g) (hg:wa.heap[g]?=some o):wb.heap[g]?=some o:=(h.2 g hN (Array.getElem?_eq_some_iff.1 hg).1).trans hg
theorem fp.Mm {N:Nat} {wa wb:World} {E:TypeId} {k:Nat} {v:Value} {L:List Nat} {ds:List (List Dat)} (h:fp wa E k v L ds) (hk:Zg N wa wb) (hl:∀q,mW v L q->N<=q):fp wb E k v L ds:=h.keep hk.1 fun q hq=>hk.2 q (hl q hq) (h.lt q hq)
theorem JU {wm wq wz:World} {r:Option Nat} (h:wm.grownBy wq r) (k:cE wq wz):wm.grownBy wz r :=
 ⟨k.os.trans h.os,k.tape.trans h.tape,k.output.trans h.output,al h.size k.size,fun i hi hr=>(Below.block k i (ak hi h.size)).trans (h.block i hi hr)⟩
theorem Nk {w wx:World} {N b q r:Nat} {v0 v1 v2 v3 v4 v5 v6 v7 v8 v9 v10 v11 v12 s0 s1 s2 s3 s4 s5 s6 s7 s8 s9 s10 s11 s12:Value} {l:List GH} (h:td w N wx b q r v0 v1 v2 v3 v4 v5 v6 v7 v8 v9 v10 v11 v12 s0 s1 s2 s3 s4 s5 s6 s7 s8 s9 s10 s11 s12 l) :
  td w N ((wx.setCell ⟨b,2,none⟩ (.slice (some ⟨wx.heap.size,0,none⟩) 0 0)).alloc (.cells #[] 81)) b q r v0 v1 (.slice (some ⟨wx.heap.size,0,none⟩) 0 0) v3 v4 v5 v6 v7 v8 v9 v10 v11 v12 s0 s1 s2 s3 s4 s5 s6 s7 s8 s9 s10 s11 s12 (l++[⟨81,5,.slice (some ⟨wx.heap.size,0,none⟩) 0 0,[],[]⟩]):=by
 have hl:mW (.slice (some ⟨wx.heap.size,0,none⟩) 0 0) []=fun b=>wx.heap.size=b:=by
  funext b
  simp[mW,Value.ownBlock]
 have hb:=h.cl.box.1
 have hz:(wx.setCell ⟨b,2,none⟩ (.slice (some ⟨wx.heap.size,0,none⟩) 0 0)).heap.size=wx.heap.size:=aK
 have h1:td w N (wx.setCell ⟨b,2,none⟩ (.slice (some ⟨wx.heap.size,0,none⟩) 0 0)) b q r v0 v1 (.slice (some ⟨wx.heap.size,0,none⟩) 0 0) v3 v4 v5 v6 v7 v8 v9 v10 v11 v12 s0 s1 s2 s3 s4 s5 s6 s7 s8 s9 s10 s11 s12 l :=
  ⟨⟨h.cl.box.zT _,h.cl.uD.far h.cl.low.2.1 2 _,Below.setCell h.cl.bel h.cl.low.1 _,h.cl.low.1,h.cl.low.2.1,by rw[hz];exact h.cl.low.2.2⟩,h.sb.far 2 _ (fun e=>h.ne.1 e.symm),h.rb.far 2 _ (fun e=>h.ne.2.1 e.symm),h.ne⟩
 have ho:=fp.te (wx.setCell ⟨b,2,none⟩ (.slice (some ⟨wx.heap.size,0,none⟩) 0 0)) 81 5
 rw[hz]at ho
 have hbl:cE (wx.setCell ⟨b,2,none⟩ (.slice (some ⟨wx.heap.size,0,none⟩) 0 0)) ((wx.setCell ⟨b,2,none⟩ (.slice (some ⟨wx.heap.size,0,none⟩) 0 0)).alloc (.cells #[] 81)):=bl
 have h2:=h1.on hbl
 exact⟨⟨h2.cl.box,h1.cl.uD.snoc hbl (e:=⟨81,5,.slice (some ⟨wx.heap.size,0,none⟩) 0 0,[],[]⟩) ho h1.cl.low.2.2 (fun x hx=>by rw[hl]at hx;omega),h2.cl.bel,h2.cl.low⟩,h2.sb,h2.rb,h2.ne⟩
theorem BF:MU 33:=by
 intro x0 x1 x2 x3 x4 x5 x6 x7 x8 x9 x10 x11 x12 S w vs hv hwt
 obtain⟨A0,c0,A1,c1,A2,c2,A3,c3,A6,c6,A7,c7,A8,c8,rfl,g0,g1,g2,g3,g4,g5,g6,g7,g8,-,g10,g11,g12⟩:=cv.vals hv
 have HR0:=hide g0
 have hl0:=g0.1
 have hm0:=g0.2.1
 simp only[aj]at hl0
 unfold maxLen at hm0
 have HR1:=hide g1
 have hl1:=g1.1
 have hm1:=g1.2.1
 simp only[aj]at hl1
 unfold maxLen at hm1
 have HR2:=hide g2
 have hl2:=g2.1
 have hm2:=g2.2.1
 simp only[aj]at hl2
 unfold maxLen at hm2
 have HR3:=hide g3
 have hl3:=g3.1
 have sK:=g3.2.1
 simp only[aj]at hl3
 unfold maxLen at sK
 have IK:=hide g6
 have SA:=g6.1
 have hm6:=g6.2.1
 simp only[aj]at SA
 unfold maxLen at hm6
 have HR7:=hide g7
 have SD:=g7.1
 have hm7:=g7.2.1
 simp only[aj]at SD
 unfold maxLen at hm7
 have SE:=hide g8
 have hl8:=g8.1
 have hm8:=g8.2.1
 simp only[aj]at hl8
 unfold maxLen at hm8
 rw[cv.fU]at hwt
 simp only[Dat.MV,Dat.ln,aj]at hwt
 have hx0:x0.length<=1048576:=aB
 have hx1:x1.length<=1048576:=aB
 have hx2:x2.length<=1048576:=aB
 have hx3:x3.length<=1048576:=aB
 have hx6:x6.length<=1048576:=aB
 have hx7:x7.length<=1048576:=aB
 have hx8:x8.length<=1048576:=aB
 have HFR:=hide (show ∀(k:Nat) (h:k<x1.length),x1[k].fl.length<=1048576 from fun k h=>by have:=Dl x1 k h;omega)
 have HFO:=hide (show ∀(k:Nat) (h:k<x2.length),x2[k].its.length+x2[k].kys.length<=1048576 from fun k h=>by have:=Dm x2 k h;omega)
 clear hwt hv g0 g1 g2 g3 g6 g7 g8
 obtain⟨is,his,zs0,zs1,zs2⟩:=info_parts zH
 obtain⟨iv,Ek,Mj,Mk,Ml⟩:=info_parts xf
 obtain⟨ia,hia,za0,za1,za2⟩:=info_parts IL
 obtain⟨io,hio,zo0,zo1,zo2⟩:=info_parts IM
 go_enter Tryz.func33,Tryz.ntmps33
 go_upto_region 2 with (fail)
 refine dO fun w2 hw2=>?_
 replace hw2:((w.alloc (.cells #[.slice A0 x0.length c0,.slice A1 x1.length c1,.slice A2 x2.length c2,.slice A3 x3.length c3,.string x4,.int .i64 x5,.slice A6 x6.length c6,.slice A7 x7.length c7,.slice A8 x8.length c8,.bool x9,.int .i64 x10,.int .i64 x11,.int .i64 x12] 30)).alloc (.cells #[.slice none 0 0,.slice none 0 0,.slice none 0 0,.slice none 0 0,.string ByteArray.empty,.int .i64 0,.slice none 0 0,.slice none 0 0,.slice none 0 0,.bool false,.int .i64 0,.int .i64 0,.int .i64 0] 30)).alloc (.cells #[.slice A0 x0.length c0,.slice A1 x1.length c1,.slice A2 x2.length c2,.slice A3 x3.length c3,.string x4,.int .i64 x5,.slice A6 x6.length c6,.slice A7 x7.length c7,.slice A8 x8.length c8,.bool x9,.int .i64 x10,.int .i64 x11,.int .i64 x12] 30)=w2:=hw2
 have hb2:cE w w2:=by rw[<-hw2];exact bl
 have hz2:w2.heap.size=w.heap.size+3:=by rw[<-hw2];simp
 have SQ:SB w2 w.heap.size (.slice A0 x0.length c0) (.slice A1 x1.length c1) (.slice A2 x2.length c2) (.slice A3 x3.length c3) (.string x4) (.int .i64 x5) (.slice A6 x6.length c6) (.slice A7 x7.length c7) (.slice A8 x8.length c8) (.bool x9) (.int .i64 x10) (.int .i64 x11) (.int .i64 x12):=by rw[<-hw2];first | exact (SB.new w 30).on bl | trace_state
 have SR:SB w2 (w.heap.size+1) (.slice none 0 0) (.slice none 0 0) (.slice none 0 0) (.slice none 0 0) (.string ByteArray.empty) (.int .i64 0) (.slice none 0 0) (.slice none 0 0) (.slice none 0 0) (.bool false) (.int .i64 0) (.int .i64 0) (.int .i64 0):=by rw[<-hw2];first | (have h:=(SB.new (w.alloc (.cells #[.slice A0 x0.length c0,.slice A1 x1.length c1,.slice A2 x2.length c2,.slice A3 x3.length c3,.string x4,.int .i64 x5,.slice A6 x6.length c6,.slice A7 x7.length c7,.slice A8 x8.length c8,.bool x9,.int .i64 x10,.int .i64 x11,.int .i64 x12] 30)) 30 (v0:=.slice none 0 0) (v1:=.slice none 0 0) (v2:=.slice none 0 0) (v3:=.slice none 0 0) (v4:=.string ByteArray.empty) (v5:=.int .i64 0) (v6:=.slice none 0 0) (v7:=.slice none 0 0) (v8:=.slice none 0 0) (v9:=.bool false) (v10:=.int .i64 0) (v11:=.int .i64 0) (v12:=.int .i64 0));rw[World.size_alloc]at h;exact h.on bl) | trace_state
 have SBB:SB w2 (w.heap.size+2) (.slice A0 x0.length c0) (.slice A1 x1.length c1) (.slice A2 x2.length c2) (.slice A3 x3.length c3) (.string x4) (.int .i64 x5) (.slice A6 x6.length c6) (.slice A7 x7.length c7) (.slice A8 x8.length c8) (.bool x9) (.int .i64 x10) (.int .i64 x11) (.int .i64 x12):=by rw[<-hw2];first | (have h:=SB.new ((w.alloc (.cells #[.slice A0 x0.length c0,.slice A1 x1.length c1,.slice A2 x2.length c2,.slice A3 x3.length c3,.string x4,.int .i64 x5,.slice A6 x6.length c6,.slice A7 x7.length c7,.slice A8 x8.length c8,.bool x9,.int .i64 x10,.int .i64 x11,.int .i64 x12] 30)).alloc (.cells #[.slice none 0 0,.slice none 0 0,.slice none 0 0,.slice none 0 0,.string ByteArray.empty,.int .i64 0,.slice none 0 0,.slice none 0 0,.slice none 0 0,.bool false,.int .i64 0,.int .i64 0,.int .i64 0] 30)) 30 (v0:=.slice A0 x0.length c0) (v1:=.slice A1 x1.length c1) (v2:=.slice A2 x2.length c2) (v3:=.slice A3 x3.length c3) (v4:=.string x4) (v5:=.int .i64 x5) (v6:=.slice A6 x6.length c6) (v7:=.slice A7 x7.length c7) (v8:=.slice A8 x8.length c8) (v9:=.bool x9) (v10:=.int .i64 x10) (v11:=.int .i64 x11) (v12:=.int .i64 x12);simp only[World.size_alloc]at h;exact h) | trace_state
 have T2:=hide (show td w (w.heap.size+3) w2 (w.heap.size+2) w.heap.size (w.heap.size+1) (.slice A0 x0.length c0) (.slice A1 x1.length c1) (.slice A2 x2.length c2) (.slice A3 x3.length c3) (.string x4) (.int .i64 x5) (.slice A6 x6.length c6) (.slice A7 x7.length c7) (.slice A8 x8.length c8) (.bool x9) (.int .i64 x10) (.int .i64 x11) (.int .i64 x12) (.slice A0 x0.length c0) (.slice A1 x1.length c1) (.slice A2 x2.length c2) (.slice A3 x3.length c3) (.string x4) (.int .i64 x5) (.slice A6 x6.length c6) (.slice A7 x7.length c7) (.slice A8 x8.length c8) (.bool x9) (.int .i64 x10) (.int .i64 x11) (.int .i64 x12) []from⟨⟨SBB,mv.nil _ _,hb2,by omega,by omega,by omega⟩,SQ,SR,by omega,by omega,by omega,by omega,by omega⟩)
 clear hw2 hb2 hz2 SQ SR SBB
 obtain⟨hlq,rB,j7,j8,j9,ka,kb,kf,kh,ki,kj,kk,ib,ic,ig⟩:=T2.out.sb
 obtain⟨hlb,hfb,kC,kD,kE,kF,kG,kH,kI,kJ,kK,kL,ix,iy,iz⟩:=T2.out.cl.box
 have tO:=hide (fp.te w2 9 1)
 obtain⟨nw,om⟩:=Row.src (mq x0) (Row.bel (cE.trans T2.out.cl.bel (show cE w2 (w2.alloc (.cells #[] 9))from bl)) HR0.out)
 rw[aj]at om
 have sO:=hide om
 clear om
 go_wp2_with (at_builtin;refine fO rfl (.tmp 7) (.tmp 9) 24 rfl 9 is (.string ByteArray.empty) 1 16 Tryz.underlying24 his zs0 zs1 zs2 aF aF tO.out sO.out c0 rfl rfl (fun b _ h=>by cases h) bj aY ?_)
 intro v9 w9 oo qQ rC
 have HQ:=hide (kM qQ rC)
 have mK:=hide (show fp w9 9 1 v9 [] (x0.map (fun x=>[Dat.str x]))from oo)
 clear oo qQ rC tO sO
 clear hlq rB j7 j8 j9 ka kb kf kh ki kj kk ib ic ig hlb hfb kC kD kE kF kG kH kI kJ kK kL ix iy iz
 obtain⟨B0,m0,d0,rfl⟩:∃A9 n9 c9,v9=.slice A9 n9 c9:=by obtain⟨A9,c9,L9,wM,-⟩:=mK.out.ownRow;exact⟨_,_,_,wM⟩
 have nc:=hide (T2.out.on HQ.out.1)
 obtain⟨tf,th,nG,nH,nK,nL,nM,nN,nO,nP,nQ,nR,lp,lu,lx⟩:=nc.out.sb
 obtain⟨ot,ou,kN,kO,kP,kQ,kR,kS,kT,kU,kV,kW,jb,jc,jd⟩:=nc.out.cl.box
 go_upto_region 3 with (fail)
 refine dO fun wq3 MW=>?_
 have T3:=hide (show td w (w.heap.size+3) wq3 (w.heap.size+2) w.heap.size (w.heap.size+1) (.slice B0 m0 d0) (.slice A1 x1.length c1) (.slice A2 x2.length c2) (.slice A3 x3.length c3) (.string x4) (.int .i64 x5) (.slice A6 x6.length c6) (.slice A7 x7.length c7) (.slice A8 x8.length c8) (.bool x9) (.int .i64 x10) (.int .i64 x11) (.int .i64 x12) (.slice A0 x0.length c0) (.slice A1 x1.length c1) (.slice A2 x2.length c2) (.slice A3 x3.length c3) (.string x4) (.int .i64 x5) (.slice A6 x6.length c6) (.slice A7 x7.length c7) (.slice A8 x8.length c8) (.bool x9) (.int .i64 x10) (.int .i64 x11) (.int .i64 x12) [⟨9,1,(.slice B0 m0 d0),[],x0.map (fun x=>[Dat.str x])⟩]from by rw[<-MW];exact T2.out.next HQ.out.1 mK.out HQ.out.2 0 (nc.out.cl.box.Dn _))
 clear tf th nG nH nK nL nM nN nO nP nQ nR lp lu lx ot ou kN kO kP kQ kR kS kT kU kV kW jb jc jd
 clear MW HQ mK nc T2
 obtain⟨hlq,rB,j7,j8,j9,ka,kb,kf,kh,ki,kj,kk,ib,ic,ig⟩:=T3.out.sb
 obtain⟨hlb,hfb,kC,kD,kE,kF,kG,kH,kI,kJ,kK,kL,ix,iy,iz⟩:=T3.out.cl.box
 go_upto_region 4 with (go_at_call 89;refine (Dt x1 S _ _ _ (Row.bel T3.out.cl.bel HR1.out) hx1 HFR.out).mono ?_;rintro e w9 ⟨v9,L1,rfl,oo,Ut,Gy⟩;have mK:=hide oo;have Uu:=hide Ut;have Ez:=hide Gy;clear oo Ut Gy;obtain⟨B1,m1,d1,rfl⟩:∃A9 n9 c9,v9=.slice A9 n9 c9:=bO;have nc:=hide (T3.out.on Ez.out);obtain⟨ot,ou,kN,kO,kP,kQ,kR,kS,kT,kU,kV,kW,jb,jc,jd⟩:=nc.out.cl.box)
 clear hlq rB j7 j8 j9 ka kb kf kh ki kj kk ib ic ig hlb hfb kC kD kE kF kG kH kI kJ kK kL ix iy iz
 refine dO fun wq4 MX=>?_
 have T4:=hide (show td w (w.heap.size+3) wq4 (w.heap.size+2) w.heap.size (w.heap.size+1) (.slice B0 m0 d0) (.slice B1 m1 d1) (.slice A2 x2.length c2) (.slice A3 x3.length c3) (.string x4) (.int .i64 x5) (.slice A6 x6.length c6) (.slice A7 x7.length c7) (.slice A8 x8.length c8) (.bool x9) (.int .i64 x10) (.int .i64 x11) (.int .i64 x12) (.slice A0 x0.length c0) (.slice A1 x1.length c1) (.slice A2 x2.length c2) (.slice A3 x3.length c3) (.string x4) (.int .i64 x5) (.slice A6 x6.length c6) (.slice A7 x7.length c7) (.slice A8 x8.length c8) (.bool x9) (.int .i64 x10) (.int .i64 x11) (.int .i64 x12) [⟨9,1,(.slice B0 m0 d0),[],x0.map (fun x=>[Dat.str x])⟩,⟨109,3,(.slice B1 m1 d1),L1,x1.map cA.D⟩]from by rw[<-MX];exact T3.out.next Ez.out mK.out Uu.out 1 (nc.out.cl.box.Dq _))
 clear MX Ez mK Uu nc T3 ot ou kN kO kP kQ kR kS kT kU kV kW jb jc jd
 obtain⟨hlq,rB,j7,j8,j9,ka,kb,kf,kh,ki,kj,kk,ib,ic,ig⟩:=T4.out.sb
 obtain⟨hlb,hfb,kC,kD,kE,kF,kG,kH,kI,kJ,kK,kL,ix,iy,iz⟩:=T4.out.cl.box
 go_upto_region 5 with (fail)
 clear hlq rB j7 j8 j9 ka kb kf kh ki kj kk ib ic ig hlb hfb kC kD kE kF kG kH kI kJ kK kL ix iy iz
 refine dO fun wq5 MZ=>?_
 have T5:=hide (show td w (w.heap.size+3) wq5 (w.heap.size+2) w.heap.size (w.heap.size+1) (.slice B0 m0 d0) (.slice B1 m1 d1) (.slice (some ⟨wq4.heap.size,0,none⟩) 0 0) (.slice A3 x3.length c3) (.string x4) (.int .i64 x5) (.slice A6 x6.length c6) (.slice A7 x7.length c7) (.slice A8 x8.length c8) (.bool x9) (.int .i64 x10) (.int .i64 x11) (.int .i64 x12) (.slice A0 x0.length c0) (.slice A1 x1.length c1) (.slice A2 x2.length c2) (.slice A3 x3.length c3) (.string x4) (.int .i64 x5) (.slice A6 x6.length c6) (.slice A7 x7.length c7) (.slice A8 x8.length c8) (.bool x9) (.int .i64 x10) (.int .i64 x11) (.int .i64 x12) [⟨9,1,(.slice B0 m0 d0),[],x0.map (fun x=>[Dat.str x])⟩,⟨109,3,(.slice B1 m1 d1),L1,x1.map cA.D⟩,⟨81,5,(.slice (some ⟨wq4.heap.size,0,none⟩) 0 0),[],[]⟩]from by rw[<-MZ];exact Nk T4.out)
 clear MZ T4
 obtain⟨hlq,rB,j7,j8,j9,ka,kb,kf,kh,ki,kj,kk,ib,ic,ig⟩:=T5.out.sb
 obtain⟨hlb,hfb,kC,kD,kE,kF,kG,kH,kI,kJ,kK,kL,ix,iy,iz⟩:=T5.out.cl.box
 go_wp2_with (fail)
 clear hlq rB j7 j8 j9 ka kb kf kh ki kj kk ib ic ig hlb hfb kC kD kE kF kG kH kI kJ kK kL ix iy iz
 go_loopw [4] (fun iv wr=>∃(i:Nat) (v:Value) (L:List Nat),iv=.int .i64 i/\i<=x2.length/\Hid (td w (w.heap.size+3) wr (w.heap.size+2) w.heap.size (w.heap.size+1) (.slice B0 m0 d0) (.slice B1 m1 d1) v (.slice A3 x3.length c3) (.string x4) (.int .i64 x5) (.slice A6 x6.length c6) (.slice A7 x7.length c7) (.slice A8 x8.length c8) (.bool x9) (.int .i64 x10) (.int .i64 x11) (.int .i64 x12) (.slice A0 x0.length c0) (.slice A1 x1.length c1) (.slice A2 x2.length c2) (.slice A3 x3.length c3) (.string x4) (.int .i64 x5) (.slice A6 x6.length c6) (.slice A7 x7.length c7) (.slice A8 x8.length c8) (.bool x9) (.int .i64 x10) (.int .i64 x11) (.int .i64 x12) [⟨9,1,(.slice B0 m0 d0),[],x0.map (fun x=>[Dat.str x])⟩,⟨109,3,(.slice B1 m1 d1),L1,x1.map cA.D⟩,⟨81,5,v,L,(x2.take i).map cz.D⟩])) (fun iv _=>x2.length - (intOf iv).toNat)
 case atStart=>exact⟨0,_,[],rfl,Nat.zero_le _,hide (by have h:=T5.out;simpa only[List.take_zero,List.map_nil]using h)⟩
 case round =>
  obtain⟨i,v,L,rfl,hi,HT⟩:=hrel
  clear T5
  by_cases h:i<x2.length
  ·
   skip
   have hdc:decide ((i:Int)<(x2.length:Int))=true:=aD
   have hdn:decide (i<x2.length)=true:=by simp[h]
   have hbw:=HT.out.cl.bel
   have hi0:(0:Int)<=(i:Int):=aB
   have hi1:(i:Int)<(x2.length:Int):=aB
   (obtain⟨b1,o1,cH,cM,cN,cO,cP,mw,jr,jR,jI,hA1,hS1,hl1,hx1,hv1,eY,eG,fa,dY,er,db,de,dq,dy,dz⟩:=cz.at HR2.out i h;subst hA1;have jh:=hide (Dat.cC.bel hbw hv1);have hh1:=hbw.box b1 hl1;have hw1:=ak hl1 (cE.size hbw);replace db:=(hh1 _).trans db;replace de:=(hh1 _).trans de;replace dq:=(hh1 _).trans dq;replace dy:=(hh1 _).trans dy;replace dz:=(hh1 _).trans dz;have gv:=hide hx1;have fJ:=hide dY;have jq:=hide er;clear hh1 hv1 hx1 hS1 dY er)
   have hfo:=HFO.out i h
   rw[gv.out]at hfo
   simp only[cz.its,cz.kys]at hfo
   obtain⟨hlq,rB,j7,j8,j9,ka,kb,kf,kh,ki,kj,kk,ib,ic,ig⟩:=HT.out.sb
   obtain⟨hlb,hfb,kC,kD,kE,kF,kG,kH,kI,kJ,kK,kL,ix,iy,iz⟩:=HT.out.cl.box
   go_upto_region 9 with (fail)
   clear hlq rB j7 j8 j9 ka kb kf kh ki kj kk ib ic ig hlb hfb kC kD kE kF kG kH kI kJ kK kL ix iy iz
   rename World=>wL
   refine dO fun wr hwr=>?_
   have El:cE wL wr:=by rw[<-hwr];exact bl
   have OA:=hide (show OB wr wL.heap.size (.int .i64 cH) (.int .i64 cM) (.int .i64 cN) (.slice mw cO.length jr) (.slice jR cP.length jI)from by rw[<-hwr];first | exact OB.new _ _ | exact (((((OB.new _ _).Dn _).Dq _).zT _).xg _).EA _)
   have TA:=hide (HT.out.on El)
   have Sl:wL.heap.size<wr.heap.size:=OA.out.1
   clear hwr
   refine xU (m:=18) (p:=16) (fun j=>match j with | 13=>[10] | _=>[]) (fun j vf wq=>match j with | 0=>((vf 0)=.pointer (some ⟨(w.heap.size+2),2,none⟩)) | 1=>((vf 1)=v) | 2=>((vf 2)=.pointer (some ⟨wL.heap.size,0,none⟩)) | 3=>((vf 3)=.int .i64 cH) | 4=>((vf 4)=.pointer (some ⟨wL.heap.size,1,none⟩)) | 5=>((vf 5)=.int .i64 cM) | 6=>((vf 6)=.pointer (some ⟨wL.heap.size,2,none⟩)) | 7=>((vf 7)=.int .i64 cN) | 8=>((vf 8)=.pointer (some ⟨wL.heap.size,3,none⟩)) | 9=>((vf 9)=.slice mw cO.length jr) | 10=>(∃(AI:Option Addr) (dI:Nat),(vf 10)=.slice AI (List.length cO) dI/\fp wq 34 6 (.slice AI (List.length cO) dI) [] (cO.map cw.D)/\(∀q,mW (.slice AI (List.length cO) dI) [] q->wr.heap.size<=q)) | 11=>((vf 11)=.pointer (some ⟨wL.heap.size,4,none⟩)) | 12=>((vf 12)=.slice jR cP.length jI) | 13=>(∃(AJ:Option Addr) (dJ:Nat),(vf 13)=.slice AJ (List.length cP) dJ/\fp wq 34 6 (.slice AJ (List.length cP) dJ) [] (cP.map cw.D)/\(∀q,mW (.slice AJ (List.length cP) dJ) [] q->wr.heap.size<=q/\¬mW (vf 10) [] q)) | 14=>(∃(AI:Option Addr) (dI:Nat) (AJ:Option Addr) (dJ:Nat),(vf 14)=.agg #[.int .i64 cH,.int .i64 cM,.int .i64 cN,.slice AI (List.length cO) dI,.slice AJ (List.length cP) dJ]/\fp wq 34 6 (.slice AI (List.length cO) dI) [] (cO.map cw.D)/\fp wq 34 6 (.slice AJ (List.length cP) dJ) [] (cP.map cw.D)/\(∀q,mW (.slice AI (List.length cO) dI) [] q->wr.heap.size<=q)/\(∀q,mW (.slice AJ (List.length cP) dJ) [] q->wr.heap.size<=q/\¬mW (.slice AI (List.length cO) dI) [] q)) | 15=>(∃(AI:Option Addr) (dI:Nat) (AJ:Option Addr) (dJ:Nat) (g:Nat),(vf 15)=.slice (some ⟨g,0,none⟩) 1 1/\wr.heap.size<=g/\wq.heap[g]?=some (.cells #[.int .i64 cH,.int .i64 cM,.int .i64 cN,.slice AI (List.length cO) dI,.slice AJ (List.length cP) dJ] 81)/\fp wq 34 6 (.slice AI (List.length cO) dI) [] (cO.map cw.D)/\fp wq 34 6 (.slice AJ (List.length cP) dJ) [] (cP.map cw.D)/\(∀q,mW (.slice AI (List.length cO) dI) [] q->wr.heap.size<=q)/\(∀q,mW (.slice AJ (List.length cP) dJ) [] q->wr.heap.size<=q/\¬mW (.slice AI (List.length cO) dI) [] q)) | 16=>(∃M:List Nat,fp wq 81 5 (vf 16) (L++M) ((x2.take (i+1)).map cz.D)/\∀q,mW (vf 16) (L++M) q->mW v L q\/wr.heap.size<=q) | 17=>((vf 17)=.pointer (some ⟨(w.heap.size+2),2,none⟩)) | _=>True) (fun wa wb=>cE wa wb) (fun wa wb=>Zg wr.heap.size wa wb) (fun wq=>td w (w.heap.size+3) wq (w.heap.size+2) w.heap.size (w.heap.size+1) (.slice B0 m0 d0) (.slice B1 m1 d1) v (.slice A3 x3.length c3) (.string x4) (.int .i64 x5) (.slice A6 x6.length c6) (.slice A7 x7.length c7) (.slice A8 x8.length c8) (.bool x9) (.int .i64 x10) (.int .i64 x11) (.int .i64 x12) (.slice A0 x0.length c0) (.slice A1 x1.length c1) (.slice (some ⟨b1,o1,none⟩) x2.length c2) (.slice A3 x3.length c3) (.string x4) (.int .i64 x5) (.slice A6 x6.length c6) (.slice A7 x7.length c7) (.slice A8 x8.length c8) (.bool x9) (.int .i64 x10) (.int .i64 x11) (.int .i64 x12) [⟨9,1,(.slice B0 m0 d0),[],x0.map (fun x=>[Dat.str x])⟩,⟨109,3,(.slice B1 m1 d1),L1,x1.map cA.D⟩,⟨81,5,v,L,(x2.take i).map cz.D⟩]/\OB wq wL.heap.size (.int .i64 cH) (.int .i64 cM) (.int .i64 cN) (.slice mw cO.length jr) (.slice jR cP.length jI)/\cE wr wq) (fun wq=>∃wm:World,cE wr wm/\wm.grownBy wq v.ownBlock) [(0,some 30),(1,some 31),(2,some 32),(3,some 33),(4,some 34),(5,some 35),(6,some 36),(7,some 37),(8,some 38),(9,some 39),(10,some 40),(11,some 41),(12,some 42),(13,some 43),(14,some 44),(15,some 45),(16,some 46),(17,some 47),(18,none)] rfl aC aC aC aF ?hG ?hR ?hR2 ?hG0 ?hG1 rfl rfl ?hstep ?hp ?hlast
   case hG=>exact⟨TA.out.on bl,OA.out.on bl,bl⟩
   case hG0=>exact fun wa wb hk hg=>⟨hg.1.on hk,hg.2.1.on hk,hg.2.2.trans hk⟩
   case hG1=>exact fun wa wb hk hg=>by obtain⟨wm,h3,h4⟩:=hg;exact⟨wm,h3,JU h4 hk⟩
   case hR =>
    intro j vf wa wb hk hv
    match j,hv with
    | 0,hv=>exact hv
    | 1,hv=>exact hv
    | 2,hv=>exact hv
    | 3,hv=>exact hv
    | 4,hv=>exact hv
    | 5,hv=>exact hv
    | 6,hv=>exact hv
    | 7,hv=>exact hv
    | 8,hv=>exact hv
    | 9,hv=>exact hv
    | 10,hv=>exact (by obtain⟨AI,dI,e,h1,h2⟩:=hv;exact⟨AI,dI,e,h1.Mm (rH hk) h2,h2⟩)
    | 11,hv=>exact hv
    | 12,hv=>exact hv
    | 13,hv=>exact (by obtain⟨AJ,dJ,e,h1,h2⟩:=hv;exact⟨AJ,dJ,e,h1.Mm (rH hk) (fun q hq=>(h2 q hq).1),h2⟩)
    | 14,hv=>exact (by obtain⟨AI,dI,AJ,dJ,e,h1,h2,h3,h4⟩:=hv;exact⟨AI,dI,AJ,dJ,e,h1.Mm (rH hk) h3,h2.Mm (rH hk) (fun q hq=>(h4 q hq).1),h3,h4⟩)
    | 15,hv=>exact (by obtain⟨AI,dI,AJ,dJ,g,e,q1,q2,h1,h2,h3,h4⟩:=hv;exact⟨AI,dI,AJ,dJ,g,e,q1,Zg.obj (rH hk) q1 q2,h1.Mm (rH hk) h3,h2.Mm (rH hk) (fun q hq=>(h4 q hq).1),h3,h4⟩)
    | 16,hv=>exact (by obtain⟨M,h1,h2⟩:=hv;exact⟨M,h1.bel hk,h2⟩)
    | 17,hv=>exact hv
    | n+18,hv=>exact trivial
   case hR2 =>
    intro j vf wa wb hjp hk hv
    match j,hv with
    | 0,hv=>exact hv
    | 1,hv=>exact hv
    | 2,hv=>exact hv
    | 3,hv=>exact hv
    | 4,hv=>exact hv
    | 5,hv=>exact hv
    | 6,hv=>exact hv
    | 7,hv=>exact hv
    | 8,hv=>exact hv
    | 9,hv=>exact hv
    | 10,hv=>exact (by obtain⟨AI,dI,e,h1,h2⟩:=hv;exact⟨AI,dI,e,h1.Mm hk h2,h2⟩)
    | 11,hv=>exact hv
    | 12,hv=>exact hv
    | 13,hv=>exact (by obtain⟨AJ,dJ,e,h1,h2⟩:=hv;exact⟨AJ,dJ,e,h1.Mm hk (fun q hq=>(h2 q hq).1),h2⟩)
    | 14,hv=>exact (by obtain⟨AI,dI,AJ,dJ,e,h1,h2,h3,h4⟩:=hv;exact⟨AI,dI,AJ,dJ,e,h1.Mm hk h3,h2.Mm hk (fun q hq=>(h4 q hq).1),h3,h4⟩)
    | 15,hv=>exact (by obtain⟨AI,dI,AJ,dJ,g,e,q1,q2,h1,h2,h3,h4⟩:=hv;exact⟨AI,dI,AJ,dJ,g,e,q1,Zg.obj hk q1 q2,h1.Mm hk h3,h2.Mm hk (fun q hq=>(h4 q hq).1),h3,h4⟩)
    | 17,hv=>exact hv
    | 16,hv=>exact absurd rfl hjp
    | n+18,hv=>exact trivial
   case hstep =>
    simp only[iT,Act.put,aa,ab,ae,af,ag,ah]
    refine (gj (i:=0) (i2:=1) (o:=_) rfl ?s0 (gj (i:=1) (i2:=2) (o:=_) rfl ?s1 (gj (i:=2) (i2:=3) (o:=_) rfl ?s2 (gj (i:=3) (i2:=4) (o:=_) rfl ?s3 (gj (i:=4) (i2:=5) (o:=_) rfl ?s4 (gj (i:=5) (i2:=6) (o:=_) rfl ?s5 (gj (i:=6) (i2:=7) (o:=_) rfl ?s6 (gj (i:=7) (i2:=8) (o:=_) rfl ?s7 (gj (i:=8) (i2:=9) (o:=_) rfl ?s8 (gj (i:=9) (i2:=10) (o:=_) rfl ?s9 (gj (i:=10) (i2:=11) (o:=_) rfl ?s10 (gj (i:=11) (i2:=12) (o:=_) rfl ?s11 (gj (i:=12) (i2:=13) (o:=_) rfl ?s12 (gj (i:=13) (i2:=14) (o:=_) rfl ?s13 (gj (i:=14) (i2:=15) (o:=_) rfl ?s14 (gj (i:=15) (i2:=16) (o:=_) rfl ?s15 (ED (p:=16) (p2:=17) (gj (i:=17) (i2:=18) (o:=_) rfl ?s17 (GM aF)))))))))))))))))))
    case s0 =>
     exact zV
    case s2 =>
     exact zV
    case s4 =>
     exact zV
    case s6 =>
     exact zV
    case s8 =>
     exact zV
    case s11 =>
     exact zV
    case s17 =>
     exact zV
    case s1 =>
     intro u wa hG hf K hK
     have g0:=xh hG aC
     have e0:(u 0)=.pointer (some ⟨(w.heap.size+2),2,none⟩):=iV hf 0 aC
     clear hf
     clear hG
     simp only[Act.put,aa,ab,ae,af,ag,ah]at hK |-
     rw[e0]at hK |-
     obtain⟨hlb,hfb,kC,kD,kE,kF,kG,kH,kI,kJ,kK,kL,ix,iy,iz⟩:=g0.1.cl.box
     clear g0
     go_simp
     exact hK.out _ _ (cE.refl _) rfl
    case s3 =>
     intro u wa hG hf K hK
     have g0:=xh hG aC
     have e2:(u 2)=.pointer (some ⟨wL.heap.size,0,none⟩):=iV hf 2 aC
     clear hf
     clear hG
     simp only[Act.put,aa,ab,ae,af,ag,ah]at hK |-
     rw[e2]at hK |-
     obtain⟨hlo,SN,q0,q1,q2,q3,q4⟩:=g0.2.1
     clear g0
     go_simp
     exact hK.out _ _ (cE.refl _) rfl
    case s5 =>
     intro u wa hG hf K hK
     have g0:=xh hG aC
     have e4:(u 4)=.pointer (some ⟨wL.heap.size,1,none⟩):=iV hf 4 aC
     clear hf
     clear hG
     simp only[Act.put,aa,ab,ae,af,ag,ah]at hK |-
     rw[e4]at hK |-
     obtain⟨hlo,SN,q0,q1,q2,q3,q4⟩:=g0.2.1
     clear g0
     go_simp
     exact hK.out _ _ (cE.refl _) rfl
    case s7 =>
     intro u wa hG hf K hK
     have g0:=xh hG aC
     have e6:(u 6)=.pointer (some ⟨wL.heap.size,2,none⟩):=iV hf 6 aC
     clear hf
     clear hG
     simp only[Act.put,aa,ab,ae,af,ag,ah]at hK |-
     rw[e6]at hK |-
     obtain⟨hlo,SN,q0,q1,q2,q3,q4⟩:=g0.2.1
     clear g0
     go_simp
     exact hK.out _ _ (cE.refl _) rfl
    case s9 =>
     intro u wa hG hf K hK
     have g0:=xh hG aC
     have e8:(u 8)=.pointer (some ⟨wL.heap.size,3,none⟩):=iV hf 8 aC
     clear hf
     clear hG
     simp only[Act.put,aa,ab,ae,af,ag,ah]at hK |-
     rw[e8]at hK |-
     obtain⟨hlo,SN,q0,q1,q2,q3,q4⟩:=g0.2.1
     clear g0
     go_simp
     exact hK.out _ _ (cE.refl _) rfl
    case s12 =>
     intro u wa hG hf K hK
     have g0:=xh hG aC
     have e11:(u 11)=.pointer (some ⟨wL.heap.size,4,none⟩):=iV hf 11 aC
     clear hf
     clear hG
     simp only[Act.put,aa,ab,ae,af,ag,ah]at hK |-
     rw[e11]at hK |-
     obtain⟨hlo,SN,q0,q1,q2,q3,q4⟩:=g0.2.1
     clear g0
     go_simp
     exact hK.out _ _ (cE.refl _) rfl
    case s10 =>
     intro u wa hG hf K hK
     have g0:=xh hG aC
     have e9:(u 9)=.slice mw cO.length jr:=iV hf 9 aC
     clear hf
     clear hG
     simp only[Act.put,aa,ab,ae,af,ag,ah]at hK |-
     rw[e9]at hK |-
     have Zh:=g0.1.cl.bel
     have BB:=cE.size g0.2.2
     go_simp
     go_at_call 90
     refine (rK cO S _ _ _ (Row.bel Zh fJ.out) aB).mono ?_
     rintro e w2 ⟨vv,rfl,hO,hn,hb2⟩
     obtain⟨AI,dI,L9,hvv,-⟩:=hO.ownRow
     rw[aj]at hvv
     subst hvv
     exact hK.out _ _ hb2 ⟨AI,dI,rfl,hO,fun q hq=>al BB (hn q hq)⟩
    case s13 =>
     intro u wa hG hf K hK
     have g0:=xh hG aC
     have e12:(u 12)=.slice jR cP.length jI:=iV hf 12 aC
     have e10:∃(AI:Option Addr) (dI:Nat),(u 10)=.slice AI (List.length cO) dI/\fp wa 34 6 (.slice AI (List.length cO) dI) [] (cO.map cw.D)/\(∀q,mW (.slice AI (List.length cO) dI) [] q->wr.heap.size<=q):=iV hf 10 aC
     clear hf
     clear hG
     simp only[Act.put,aa,ab,ae,af,ag,ah]at hK |-
     rw[e12]at hK |-
     obtain⟨AI,dI,e10,hI,hIl⟩:=e10
     rw[e10]at hK |-
     have Zh:=g0.1.cl.bel
     have BB:=cE.size g0.2.2
     go_simp
     go_at_call 90
     refine (rK cP S _ _ _ (Row.bel Zh jq.out) aB).mono ?_
     rintro e w2 ⟨vv,rfl,hO,hn,hb2⟩
     obtain⟨AJ,dJ,L9,hvv,-⟩:=hO.ownRow
     rw[aj]at hvv
     subst hvv
     exact hK.out _ _ hb2 ⟨AJ,dJ,rfl,hO,fun q hq=>⟨al BB (hn q hq),by show ¬mW (u 10) [] q;rw[e10];intro hc;have h1:=hI.lt q hc;have h2:=hn q hq;omega⟩⟩
    case s14 =>
     intro u wa hG hf K hK
     have e3:(u 3)=.int .i64 cH:=iV hf 3 aC
     have e5:(u 5)=.int .i64 cM:=iV hf 5 aC
     have e7:(u 7)=.int .i64 cN:=iV hf 7 aC
     have e10:∃(AI:Option Addr) (dI:Nat),(u 10)=.slice AI (List.length cO) dI/\fp wa 34 6 (.slice AI (List.length cO) dI) [] (cO.map cw.D)/\(∀q,mW (.slice AI (List.length cO) dI) [] q->wr.heap.size<=q):=iV hf 10 aC
     have e13:∃(AJ:Option Addr) (dJ:Nat),(u 13)=.slice AJ (List.length cP) dJ/\fp wa 34 6 (.slice AJ (List.length cP) dJ) [] (cP.map cw.D)/\(∀q,mW (.slice AJ (List.length cP) dJ) [] q->wr.heap.size<=q/\¬mW (u 10) [] q):=iV hf 13 aC
     clear hf
     clear hG
     simp only[Act.put,aa,ab,ae,af,ag,ah]at hK |-
     rw[e3]at hK |-
     rw[e5]at hK |-
     rw[e7]at hK |-
     obtain⟨AI,dI,e10,hI,hIl⟩:=e10
     rw[e10]at hK |-
     obtain⟨AJ,dJ,e13,hJ,Zi⟩:=e13
     rw[e13]at hK |-
     rw[e10]at Zi
     go_simp
     exact hK.out _ _ (cE.refl _) ⟨AI,dI,AJ,dJ,rfl,hI,hJ,hIl,Zi⟩
    case s15 =>
     intro u wa hG hf K hK
     have g0:=xh hG aC
     have e14:∃(AI:Option Addr) (dI:Nat) (AJ:Option Addr) (dJ:Nat),(u 14)=.agg #[.int .i64 cH,.int .i64 cM,.int .i64 cN,.slice AI (List.length cO) dI,.slice AJ (List.length cP) dJ]/\fp wa 34 6 (.slice AI (List.length cO) dI) [] (cO.map cw.D)/\fp wa 34 6 (.slice AJ (List.length cP) dJ) [] (cP.map cw.D)/\(∀q,mW (.slice AI (List.length cO) dI) [] q->wr.heap.size<=q)/\(∀q,mW (.slice AJ (List.length cP) dJ) [] q->wr.heap.size<=q/\¬mW (.slice AI (List.length cO) dI) [] q):=iV hf 14 aC
     clear hf
     clear hG
     simp only[Act.put,aa,ab,ae,af,ag,ah]at hK |-
     obtain⟨AI,dI,AJ,dJ,e14,hI,hJ,hIl,Zi⟩:=e14
     rw[e14]at hK |-
     have BB:=cE.size g0.2.2
     have hbx:cE wa (wa.alloc (.cells #[.int .i64 cH,.int .i64 cM,.int .i64 cN,.slice AI (List.length cO) dI,.slice AJ (List.length cP) dJ] 81)):=bl
     go_simp
     exact hK.out _ _ hbx ⟨AI,dI,AJ,dJ,wa.heap.size,rfl,BB,heap_alloc_new _ _,hI.bel hbx,hJ.bel hbx,hIl,Zi⟩
   case hp =>
    simp only[iT,Act.put,aa,ab,ae,af,ag,ah]
    intro u wa hG hf K hK
    have e1:(u 1)=v:=iV hf 1 aC
    have e15:∃(AI:Option Addr) (dI:Nat) (AJ:Option Addr) (dJ:Nat) (g:Nat),(u 15)=.slice (some ⟨g,0,none⟩) 1 1/\wr.heap.size<=g/\wa.heap[g]?=some (.cells #[.int .i64 cH,.int .i64 cM,.int .i64 cN,.slice AI (List.length cO) dI,.slice AJ (List.length cP) dJ] 81)/\fp wa 34 6 (.slice AI (List.length cO) dI) [] (cO.map cw.D)/\fp wa 34 6 (.slice AJ (List.length cP) dJ) [] (cP.map cw.D)/\(∀q,mW (.slice AI (List.length cO) dI) [] q->wr.heap.size<=q)/\(∀q,mW (.slice AJ (List.length cP) dJ) [] q->wr.heap.size<=q/\¬mW (.slice AI (List.length cO) dI) [] q):=iV hf 15 aC
    clear hf
    rw[e1]at hK |-
    obtain⟨AI,dI,AJ,dJ,g,e15,hg1,hg2,hI,hJ,hIl,Zi⟩:=e15
    rw[e15]at hK |-
    obtain⟨AI2,cI2,LI,eI,rI,nI2,mI⟩:=hI.ownRow
    obtain⟨AJ2,cJ2,LJ,eJ,rJ,nJ2,mJ⟩:=hJ.ownRow
    simp only[aj]at eI eJ
    injection eI with eI1 eI2 eI3
    injection eJ with eJ1 eJ2 eJ3
    subst eI1 eI3 eJ1 eJ3
    have hov:=cz.jQ eY eG fa rI rJ
    have hnd:(LI++LJ).Nodup:=j2 nI2 nJ2 (fun a ha hb=>(Zi a (mJ a hb)).2 (mI a ha))
    have hlm:∀a,a∈LI++LJ->wr.heap.size<=a:=fun a ha=>(List.mem_append.1 ha).elim (fun q=>hIl a (mI a q)) (fun q=>(Zi a (mJ a q)).1)
    have hold:=hG.1.cl.uD.own ⟨81,5,v,L,(x2.take i).map cz.D⟩ aK
    have hlv:=(TA.out.cl.uD.own ⟨81,5,v,L,(x2.take i).map cz.D⟩ aK).lt
    have om:Src wa 5 (some ⟨g,0,none⟩) 1 (LI++LJ) [cz.D (.mk cH cM cN cO cP)] [.int .i64 cH,.int .i64 cM,.int .i64 cN,.slice AI (List.length cO) dI,.slice AJ (List.length cP) dJ]:=⟨rfl,(fun h=>(by cases h)),⟨LI++LJ,[],[.int .i64 cH,.int .i64 cM,.int .i64 cN,.slice AI (List.length cO) dI,.slice AJ (List.length cP) dJ],[],by simp,by simp,rfl,hov,rfl,rfl⟩,hnd,fun ad hA j u hu=>by obtain rfl:=Option.some.inj hA;rw[addr_add];unfold World.cell?;simp only[hg2];simpa using hu⟩
    refine ly (.tmp 31) (.tmp 45) 26 rfl 81 io (.agg #[.int .i64 0,.int .i64 0,.int .i64 0,.slice none 0 0,.slice none 0 0]) 5 72 Tryz.underlying26 hio zo0 zo1 zo2 aF aF hold om 1 rfl rfl (fun b hb hm=>by have h1:=hlv b hb;have h2:=hlm b hm;omega) cf bL (fun v9 w9 oo qQ rC=>?_)
    (try simp only[Act.put,aa,ab,ae,af,ag,ah])
    have BB:=cE.size hG.2.2
    refine hK.out _ _ ⟨qQ.size,fun k hk hl=>qQ.block k hl (fun e=>by have:=hlv k (Or.inl e.symm);omega)⟩ ⟨wa,hG.2.2,qQ⟩ ⟨LI++LJ,by rw[zU cz.D h,gv.out];first | exact oo | (rw[List.map_take];exact oo),fun q hq=>?_⟩
    rcases hq with hq | hq
    ·
     rcases rC q hq with e | e
     ·
      exact Or.inl (Or.inl e)
     ·
      exact Or.inr aB
    ·
     rcases List.mem_append.1 hq with hq | hq
     ·
      exact Or.inl (Or.inr hq)
     ·
      exact Or.inr (hlm q hq)
   case hlast =>
    simp only[iT,Act.put,aa,ab,ae,af,ag,ah]
    intro u wa hG hf K hK
    have e16:∃M:List Nat,fp wa 81 5 (u 16) (L++M) ((x2.take (i+1)).map cz.D)/\∀q,mW (u 16) (L++M) q->mW v L q\/wr.heap.size<=q:=hf 16 aF
    have e17:u 17=.pointer (some ⟨(w.heap.size+2),2,none⟩):=hf 17 aF
    clear hf
    obtain⟨M,hO,hbl⟩:=e16
    obtain⟨A9,n9,c9,e16⟩:∃A9 n9 c9,u 16=.slice A9 n9 c9:=by obtain⟨A9,c9,L9,wM,-⟩:=hO.ownRow;exact⟨_,_,_,wM⟩
    rw[e16]at hO hbl hK |-
    rw[e17]at hK |-
    obtain⟨wm,h2,h3⟩:=hG
    have hGR:=td.grow (l:=[⟨9,1,(.slice B0 m0 d0),[],x0.map (fun x=>[Dat.str x])⟩,⟨109,3,(.slice B1 m1 d1),L1,x1.map cA.D⟩]) (e:=⟨81,5,v,L,(x2.take i).map cz.D⟩) (e':=⟨81,5,.slice A9 n9 c9,L++M,(x2.take (i+1)).map cz.D⟩) TA.out h2 h3 hO hbl
    obtain⟨GB,GN⟩:=hGR
    have HGN:=hide (GN 2 (.slice A9 n9 c9) (GB.zT _))
    clear GN h2 h3 hO hbl
    obtain⟨ag6,ag7,acf,acg,ach,aci,acj,ack,acm,acn,aco,acp,Zb,Zc,Zd⟩:=GB
    go_simp
    refine hK.out undef _ ?_
    clear hK
    exact Uv
  ·
   skip
   have hdc:decide ((i:Int)<(x2.length:Int))=false:=aD
   have hdn:decide (i<x2.length)=false:=aD
   obtain⟨B2,m2,d2,rfl⟩:∃A9 n9 c9,v=.slice A9 n9 c9:=by obtain⟨A9,c9,L9,wM,-⟩:=(HT.out.cl.uD.own ⟨81,5,v,L,(x2.take i).map cz.D⟩ aK).ownRow;exact⟨_,_,_,wM⟩
   have T6:=hide (show td w (w.heap.size+3) wr (w.heap.size+2) w.heap.size (w.heap.size+1) (.slice B0 m0 d0) (.slice B1 m1 d1) (.slice B2 m2 d2) (.slice A3 x3.length c3) (.string x4) (.int .i64 x5) (.slice A6 x6.length c6) (.slice A7 x7.length c7) (.slice A8 x8.length c8) (.bool x9) (.int .i64 x10) (.int .i64 x11) (.int .i64 x12) (.slice A0 x0.length c0) (.slice A1 x1.length c1) (.slice A2 x2.length c2) (.slice A3 x3.length c3) (.string x4) (.int .i64 x5) (.slice A6 x6.length c6) (.slice A7 x7.length c7) (.slice A8 x8.length c8) (.bool x9) (.int .i64 x10) (.int .i64 x11) (.int .i64 x12) [⟨9,1,(.slice B0 m0 d0),[],x0.map (fun x=>[Dat.str x])⟩,⟨109,3,(.slice B1 m1 d1),L1,x1.map cA.D⟩,⟨81,5,(.slice B2 m2 d2),L,x2.map cz.D⟩]from by have h:=HT.out;rw[List.take_of_length_le (show x2.length<=i by omega)]at h;exact h)
   clear HT
   obtain⟨hlq,rB,j7,j8,j9,ka,kb,kf,kh,ki,kj,kk,ib,ic,ig⟩:=T6.out.sb
   obtain⟨hlb,hfb,kC,kD,kE,kF,kG,kH,kI,kJ,kK,kL,ix,iy,iz⟩:=T6.out.cl.box
   go_upto_region 10 with (fail)
   go_upto_region 11 with (go_at_call 90;refine (rK x3 S _ _ _ (Row.bel T6.out.cl.bel HR3.out) hx3).mono ?_;rintro e w9 ⟨v9,rfl,oo,Ut,Gy⟩;have mK:=hide oo;have Uu:=hide Ut;have Ez:=hide Gy;clear oo Ut Gy;obtain⟨B3,m3,d3,rfl⟩:∃A9 n9 c9,v9=.slice A9 n9 c9:=bO;have nc:=hide (T6.out.on Ez.out);obtain⟨ot,ou,kN,kO,kP,kQ,kR,kS,kT,kU,kV,kW,jb,jc,jd⟩:=nc.out.cl.box)
   clear hlq rB j7 j8 j9 ka kb kf kh ki kj kk ib ic ig hlb hfb kC kD kE kF kG kH kI kJ kK kL ix iy iz
   refine dO fun SJ Na=>?_
   have T7:=hide (show td w (w.heap.size+3) SJ (w.heap.size+2) w.heap.size (w.heap.size+1) (.slice B0 m0 d0) (.slice B1 m1 d1) (.slice B2 m2 d2) (.slice B3 m3 d3) (.string x4) (.int .i64 x5) (.slice A6 x6.length c6) (.slice A7 x7.length c7) (.slice A8 x8.length c8) (.bool x9) (.int .i64 x10) (.int .i64 x11) (.int .i64 x12) (.slice A0 x0.length c0) (.slice A1 x1.length c1) (.slice A2 x2.length c2) (.slice A3 x3.length c3) (.string x4) (.int .i64 x5) (.slice A6 x6.length c6) (.slice A7 x7.length c7) (.slice A8 x8.length c8) (.bool x9) (.int .i64 x10) (.int .i64 x11) (.int .i64 x12) [⟨9,1,(.slice B0 m0 d0),[],x0.map (fun x=>[Dat.str x])⟩,⟨109,3,(.slice B1 m1 d1),L1,x1.map cA.D⟩,⟨81,5,(.slice B2 m2 d2),L,x2.map cz.D⟩,⟨34,6,(.slice B3 m3 d3),[],x3.map cw.D⟩]from by rw[<-Na];exact T6.out.next Ez.out mK.out Uu.out 3 (nc.out.cl.box.xg _))
   clear Na Ez mK Uu nc T6 ot ou kN kO kP kQ kR kS kT kU kV kW jb jc jd
   obtain⟨hlq,rB,j7,j8,j9,ka,kb,kf,kh,ki,kj,kk,ib,ic,ig⟩:=T7.out.sb
   obtain⟨hlb,hfb,kC,kD,kE,kF,kG,kH,kI,kJ,kK,kL,ix,iy,iz⟩:=T7.out.cl.box
   have tO:=hide (fp.te SJ 9 1)
   obtain⟨nw,om⟩:=Row.src (mq x6) (Row.bel (cE.trans T7.out.cl.bel (show cE SJ (SJ.alloc (.cells #[] 9))from bl)) IK.out)
   rw[aj]at om
   have sO:=hide om
   clear om
   go_wp2_with (at_builtin;refine fO rfl (.tmp 52) (.tmp 54) 24 rfl 9 is (.string ByteArray.empty) 1 16 Tryz.underlying24 his zs0 zs1 zs2 aF aF tO.out sO.out c6 rfl rfl (fun b _ h=>by cases h) bj aY ?_)
   intro v9 w9 oo qQ rC
   have HQ:=hide (kM qQ rC)
   have mK:=hide (show fp w9 9 1 v9 [] (x6.map (fun x=>[Dat.str x]))from oo)
   clear oo qQ rC tO sO
   clear hlq rB j7 j8 j9 ka kb kf kh ki kj kk ib ic ig hlb hfb kC kD kE kF kG kH kI kJ kK kL ix iy iz
   obtain⟨B6,m6,d6,rfl⟩:∃A9 n9 c9,v9=.slice A9 n9 c9:=by obtain⟨A9,c9,L9,wM,-⟩:=mK.out.ownRow;exact⟨_,_,_,wM⟩
   have nc:=hide (T7.out.on HQ.out.1)
   obtain⟨tf,th,nG,nH,nK,nL,nM,nN,nO,nP,nQ,nR,lp,lu,lx⟩:=nc.out.sb
   obtain⟨ot,ou,kN,kO,kP,kQ,kR,kS,kT,kU,kV,kW,jb,jc,jd⟩:=nc.out.cl.box
   go_upto_region 12 with (fail)
   refine dO fun SK Nb=>?_
   have T8:=hide (show td w (w.heap.size+3) SK (w.heap.size+2) w.heap.size (w.heap.size+1) (.slice B0 m0 d0) (.slice B1 m1 d1) (.slice B2 m2 d2) (.slice B3 m3 d3) (.string x4) (.int .i64 x5) (.slice B6 m6 d6) (.slice A7 x7.length c7) (.slice A8 x8.length c8) (.bool x9) (.int .i64 x10) (.int .i64 x11) (.int .i64 x12) (.slice A0 x0.length c0) (.slice A1 x1.length c1) (.slice A2 x2.length c2) (.slice A3 x3.length c3) (.string x4) (.int .i64 x5) (.slice A6 x6.length c6) (.slice A7 x7.length c7) (.slice A8 x8.length c8) (.bool x9) (.int .i64 x10) (.int .i64 x11) (.int .i64 x12) [⟨9,1,(.slice B0 m0 d0),[],x0.map (fun x=>[Dat.str x])⟩,⟨109,3,(.slice B1 m1 d1),L1,x1.map cA.D⟩,⟨81,5,(.slice B2 m2 d2),L,x2.map cz.D⟩,⟨34,6,(.slice B3 m3 d3),[],x3.map cw.D⟩,⟨9,1,(.slice B6 m6 d6),[],x6.map (fun x=>[Dat.str x])⟩]from by rw[<-Nb];exact T7.out.next HQ.out.1 mK.out HQ.out.2 6 (nc.out.cl.box.wv _))
   clear tf th nG nH nK nL nM nN nO nP nQ nR lp lu lx ot ou kN kO kP kQ kR kS kT kU kV kW jb jc jd
   clear Nb HQ mK nc T7
   obtain⟨hlq,rB,j7,j8,j9,ka,kb,kf,kh,ki,kj,kk,ib,ic,ig⟩:=T8.out.sb
   obtain⟨hlb,hfb,kC,kD,kE,kF,kG,kH,kI,kJ,kK,kL,ix,iy,iz⟩:=T8.out.cl.box
   have tO:=hide (fp.te SK 9 1)
   obtain⟨nw,om⟩:=Row.src (mq x7) (Row.bel (cE.trans T8.out.cl.bel (show cE SK (SK.alloc (.cells #[] 9))from bl)) HR7.out)
   rw[aj]at om
   have sO:=hide om
   clear om
   go_wp2_with (at_builtin;refine fO rfl (.tmp 57) (.tmp 59) 24 rfl 9 is (.string ByteArray.empty) 1 16 Tryz.underlying24 his zs0 zs1 zs2 aF aF tO.out sO.out c7 rfl rfl (fun b _ h=>by cases h) bj aY ?_)
   intro v9 w9 oo qQ rC
   have HQ:=hide (kM qQ rC)
   have mK:=hide (show fp w9 9 1 v9 [] (x7.map (fun x=>[Dat.str x]))from oo)
   clear oo qQ rC tO sO
   clear hlq rB j7 j8 j9 ka kb kf kh ki kj kk ib ic ig hlb hfb kC kD kE kF kG kH kI kJ kK kL ix iy iz
   obtain⟨B7,m7,d7,rfl⟩:∃A9 n9 c9,v9=.slice A9 n9 c9:=by obtain⟨A9,c9,L9,wM,-⟩:=mK.out.ownRow;exact⟨_,_,_,wM⟩
   have nc:=hide (T8.out.on HQ.out.1)
   obtain⟨tf,th,nG,nH,nK,nL,nM,nN,nO,nP,nQ,nR,lp,lu,lx⟩:=nc.out.sb
   obtain⟨ot,ou,kN,kO,kP,kQ,kR,kS,kT,kU,kV,kW,jb,jc,jd⟩:=nc.out.cl.box
   go_upto_region 13 with (fail)
   refine dO fun SL Nc=>?_
   have T9:=hide (show td w (w.heap.size+3) SL (w.heap.size+2) w.heap.size (w.heap.size+1) (.slice B0 m0 d0) (.slice B1 m1 d1) (.slice B2 m2 d2) (.slice B3 m3 d3) (.string x4) (.int .i64 x5) (.slice B6 m6 d6) (.slice B7 m7 d7) (.slice A8 x8.length c8) (.bool x9) (.int .i64 x10) (.int .i64 x11) (.int .i64 x12) (.slice A0 x0.length c0) (.slice A1 x1.length c1) (.slice A2 x2.length c2) (.slice A3 x3.length c3) (.string x4) (.int .i64 x5) (.slice A6 x6.length c6) (.slice A7 x7.length c7) (.slice A8 x8.length c8) (.bool x9) (.int .i64 x10) (.int .i64 x11) (.int .i64 x12) [⟨9,1,(.slice B0 m0 d0),[],x0.map (fun x=>[Dat.str x])⟩,⟨109,3,(.slice B1 m1 d1),L1,x1.map cA.D⟩,⟨81,5,(.slice B2 m2 d2),L,x2.map cz.D⟩,⟨34,6,(.slice B3 m3 d3),[],x3.map cw.D⟩,⟨9,1,(.slice B6 m6 d6),[],x6.map (fun x=>[Dat.str x])⟩,⟨9,1,(.slice B7 m7 d7),[],x7.map (fun x=>[Dat.str x])⟩]from by rw[<-Nc];exact T8.out.next HQ.out.1 mK.out HQ.out.2 7 (nc.out.cl.box.Nd _))
   clear tf th nG nH nK nL nM nN nO nP nQ nR lp lu lx ot ou kN kO kP kQ kR kS kT kU kV kW jb jc jd
   clear Nc HQ mK nc T8
   obtain⟨hlq,rB,j7,j8,j9,ka,kb,kf,kh,ki,kj,kk,ib,ic,ig⟩:=T9.out.sb
   obtain⟨hlb,hfb,kC,kD,kE,kF,kG,kH,kI,kJ,kK,kL,ix,iy,iz⟩:=T9.out.cl.box
   have tO:=hide (fp.te SL 76 2)
   obtain⟨nw,om⟩:=Row.src (EB x8) (Row.bel (cE.trans T9.out.cl.bel (show cE SL (SL.alloc (.cells #[] 76))from bl)) SE.out)
   rw[aj]at om
   have sO:=hide om
   clear om
   go_wp2_with (at_builtin;refine fO rfl (.tmp 62) (.tmp 64) 28 rfl 76 ia (.agg #[.int .i64 0,.int .i64 0]) 2 16 Tryz.underlying28 hia za0 za1 za2 aF aF tO.out sO.out c8 rfl rfl (fun b _ h=>by cases h) bj aY ?_)
   intro v9 w9 oo qQ rC
   have HQ:=hide (kM qQ rC)
   have mK:=hide (show fp w9 76 2 v9 [] (x8.map cJ.D)from oo)
   clear oo qQ rC tO sO
   clear hlq rB j7 j8 j9 ka kb kf kh ki kj kk ib ic ig hlb hfb kC kD kE kF kG kH kI kJ kK kL ix iy iz
   obtain⟨B8,m8,d8,rfl⟩:∃A9 n9 c9,v9=.slice A9 n9 c9:=by obtain⟨A9,c9,L9,wM,-⟩:=mK.out.ownRow;exact⟨_,_,_,wM⟩
   have nc:=hide (T9.out.on HQ.out.1)
   obtain⟨tf,th,nG,nH,nK,nL,nM,nN,nO,nP,nQ,nR,lp,lu,lx⟩:=nc.out.sb
   obtain⟨ot,ou,kN,kO,kP,kQ,kR,kS,kT,kU,kV,kW,jb,jc,jd⟩:=nc.out.cl.box
   go_upto_region 14 with (fail)
   refine dO fun Dr EC=>?_
   have T10:=hide (show td w (w.heap.size+3) Dr (w.heap.size+2) w.heap.size (w.heap.size+1) (.slice B0 m0 d0) (.slice B1 m1 d1) (.slice B2 m2 d2) (.slice B3 m3 d3) (.string x4) (.int .i64 x5) (.slice B6 m6 d6) (.slice B7 m7 d7) (.slice B8 m8 d8) (.bool x9) (.int .i64 x10) (.int .i64 x11) (.int .i64 x12) (.slice A0 x0.length c0) (.slice A1 x1.length c1) (.slice A2 x2.length c2) (.slice A3 x3.length c3) (.string x4) (.int .i64 x5) (.slice A6 x6.length c6) (.slice A7 x7.length c7) (.slice A8 x8.length c8) (.bool x9) (.int .i64 x10) (.int .i64 x11) (.int .i64 x12) [⟨9,1,(.slice B0 m0 d0),[],x0.map (fun x=>[Dat.str x])⟩,⟨109,3,(.slice B1 m1 d1),L1,x1.map cA.D⟩,⟨81,5,(.slice B2 m2 d2),L,x2.map cz.D⟩,⟨34,6,(.slice B3 m3 d3),[],x3.map cw.D⟩,⟨9,1,(.slice B6 m6 d6),[],x6.map (fun x=>[Dat.str x])⟩,⟨9,1,(.slice B7 m7 d7),[],x7.map (fun x=>[Dat.str x])⟩,⟨76,2,(.slice B8 m8 d8),[],x8.map cJ.D⟩]from by rw[<-EC];exact T9.out.next HQ.out.1 mK.out HQ.out.2 8 (nc.out.cl.box.Nf _))
   clear tf th nG nH nK nL nM nN nO nP nQ nR lp lu lx ot ou kN kO kP kQ kR kS kT kU kV kW jb jc jd
   clear EC HQ mK nc T9
   have Ng:=hide T10.out.rb
   obtain⟨hlq,rB,j7,j8,j9,ka,kb,kf,kh,ki,kj,kk,ib,ic,ig⟩:=T10.out.sb
   obtain⟨hlb,hfb,kC,kD,kE,kF,kG,kH,kI,kJ,kK,kL,ix,iy,iz⟩:=T10.out.cl.box
   refine wp_region_lit ?_
   refine wpList_plain rfl fun K hK=>?_
   go_simp
   refine hK _ _ ?_
   refine wpList_store_mid rfl 30 (.tmp 2) (.tmp 67) rfl (w.heap.size+1) 0 #[.slice B0 m0 d0,.slice B1 m1 d1,.slice B2 m2 d2,.slice B3 m3 d3,.string x4,.int .i64 x5,.slice B6 m6 d6,.slice B7 m7 d7,.slice B8 m8 d8,.bool x9,.int .i64 x10,.int .i64 x11,.int .i64 x12] rfl rfl Ng.out.there aC bm ?_
   refine uM fun wz hwz=>?_
   replace hwz:wz=(((((((((((((Dr.setCell ⟨w.heap.size+1,0,none⟩ (.slice B0 m0 d0)).setCell ⟨w.heap.size+1,1,none⟩ (.slice B1 m1 d1)).setCell ⟨w.heap.size+1,2,none⟩ (.slice B2 m2 d2)).setCell ⟨w.heap.size+1,3,none⟩ (.slice B3 m3 d3)).setCell ⟨w.heap.size+1,4,none⟩ (.string x4)).setCell ⟨w.heap.size+1,5,none⟩ (.int .i64 x5)).setCell ⟨w.heap.size+1,6,none⟩ (.slice B6 m6 d6)).setCell ⟨w.heap.size+1,7,none⟩ (.slice B7 m7 d7)).setCell ⟨w.heap.size+1,8,none⟩ (.slice B8 m8 d8)).setCell ⟨w.heap.size+1,9,none⟩ (.bool x9)).setCell ⟨w.heap.size+1,10,none⟩ (.int .i64 x10)).setCell ⟨w.heap.size+1,11,none⟩ (.int .i64 x11)).setCell ⟨w.heap.size+1,12,none⟩ (.int .i64 x12)):=hwz
   have hsame:∀y,(w.heap.size+1)≠y->wz.heap[y]?=Dr.heap[y]?:=fun y hy=>by rw[hwz,eX 12 _ hy,eX 11 _ hy,eX 10 _ hy,eX 9 _ hy,eX 8 _ hy,eX 7 _ hy,eX 6 _ hy,eX 5 _ hy,eX 4 _ hy,eX 3 _ hy,eX 2 _ hy,eX 1 _ hy,eX 0 _ hy]
   have hsz:wz.heap.size=Dr.heap.size:=by rw[hwz];simp
   have PZ:SB wz (w.heap.size+1) (.slice B0 m0 d0) (.slice B1 m1 d1) (.slice B2 m2 d2) (.slice B3 m3 d3) (.string x4) (.int .i64 x5) (.slice B6 m6 d6) (.slice B7 m7 d7) (.slice B8 m8 d8) (.bool x9) (.int .i64 x10) (.int .i64 x11) (.int .i64 x12):=by rw[hwz];exact ((((((((((((Ng.out.Dn _).Dq _).zT _).xg _).EA _).Ze _).wv _).Nd _).Nf _).Zf _).Nh _).Ni _).Nj _
   have hbz:cE w wz:=by rw[hwz];exact (Below.setCell (Below.setCell (Below.setCell (Below.setCell (Below.setCell (Below.setCell (Below.setCell (Below.setCell (Below.setCell (Below.setCell (Below.setCell (Below.setCell (Below.setCell T10.out.cl.bel (show w.heap.size<=w.heap.size+1 by omega) _) (show w.heap.size<=w.heap.size+1 by omega) _) (show w.heap.size<=w.heap.size+1 by omega) _) (show w.heap.size<=w.heap.size+1 by omega) _) (show w.heap.size<=w.heap.size+1 by omega) _) (show w.heap.size<=w.heap.size+1 by omega) _) (show w.heap.size<=w.heap.size+1 by omega) _) (show w.heap.size<=w.heap.size+1 by omega) _) (show w.heap.size<=w.heap.size+1 by omega) _) (show w.heap.size<=w.heap.size+1 by omega) _) (show w.heap.size<=w.heap.size+1 by omega) _) (show w.heap.size<=w.heap.size+1 by omega) _) (show w.heap.size<=w.heap.size+1 by omega) _)
   have hez:mv w.heap.size wz [⟨9,1,(.slice B0 m0 d0),[],x0.map (fun x=>[Dat.str x])⟩,⟨109,3,(.slice B1 m1 d1),L1,x1.map cA.D⟩,⟨81,5,(.slice B2 m2 d2),L,x2.map cz.D⟩,⟨34,6,(.slice B3 m3 d3),[],x3.map cw.D⟩,⟨9,1,(.slice B6 m6 d6),[],x6.map (fun x=>[Dat.str x])⟩,⟨9,1,(.slice B7 m7 d7),[],x7.map (fun x=>[Dat.str x])⟩,⟨76,2,(.slice B8 m8 d8),[],x8.map cJ.D⟩]:=(T10.out.cl.uD.keep aB (fun e he x hx=>hsame x (by have:=T10.out.cl.uD.low e he x hx;omega))).weak aB
   clear hlq rB j7 j8 j9 ka kb kf kh ki kj kk ib ic ig hlb hfb kC kD kE kF kG kH kI kJ kK kL ix iy iz
   obtain⟨-,-,e0,e1,e2,e3,e4,e5,e6,e7,e8,e9,e10,e11,e12⟩:=PZ
   clear hwz Ng hsame hsz
   refine wpList_nil ?_
   go_simp
   rename_i hKr
   refine hKr _ _ ?_
   clear hKr hK
   refine wp_ret ?_
   exact bodyPost_ret (v:=.agg #[.slice B0 m0 d0,.slice B1 m1 d1,.slice B2 m2 d2,.slice B3 m3 d3,.string x4,.int .i64 x5,.slice B6 m6 d6,.slice B7 m7 d7,.slice B8 m8 d8,.bool x9,.int .i64 x10,.int .i64 x11,.int .i64 x12]) (by simp[results,Tryz.results33,e0,e1,e2,e3,e4,e5,e6,e7,e8,e9,e10,e11,e12,go_sem];try rfl) rfl ⟨_,_,_,_,_,_,_,_,_,_,_,_,_,_,rfl,hez,hbz⟩
end Go.Proofs.YtjngkknbpfgdcaaGreatDoor
