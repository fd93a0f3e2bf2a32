import Derived.Test.YtjngkknbpfgdcaaGreatDoorVvR3
import Derived.Test.YtjngkknbpfgdcaaGreatDoorVvK5
set_option linter.unusedVariables false
set_option linter.unusedSimpArgs false
set_option maxRecDepth 100000
set_option maxHeartbeats 8000000
namespace Go.Proofs.YtjngkknbpfgdcaaGreatDoor
open Go.RowKit Go.Proofs.Tryz
theorem Kb:WvC 8:=by
 intro s r v S w vs j6 To hv hr hx Mk
 have HX:=I hx
 have HR:=I hr
 have HT:=I j6
 have HP:=I To
 have HV:=I hv
 have HWT:=I Mk
 obtain⟨x0,x1,x2,x3,x4,x5,x6,x7,x8,x9,F,G,Z⟩:=s
 obtain⟨A0,c0,A1,c1,A2,c2,A3,c3,A6,c6,A7,c7,A8,c8,rfl,g0,g1,g2,g3,g4,g5,g6,g7,g8,-,g10,g11,g12⟩:=O.gK hv
 have HG:=I (show x4.size<=maxLen/\dT x5/\dT F/\dT G/\dT Z from⟨g4,g5,g10,g11,g12⟩)
 obtain⟨rk,rn,ri,rt,rl,rh⟩:=r
 obtain⟨vk,vn,vi,vt,vl,vh⟩:=v
 simp only[cC.val]
 clear hv j6 To hr hx Mk g0 g1 g2 g3 g4 g5 g6 g7 g8 g10 g11 g12
 obtain⟨bv,Gg⟩:∃q,eP (O.mk x0 x1 x2 x3 x4 x5 x6 x7 x8 x9 F G Z)=q:=⟨_,rfl⟩
 obtain⟨bi,WG⟩:∃q,eE (O.mk x0 x1 x2 x3 x4 x5 x6 x7 x8 x9 F G Z) ⟨rk,rn,ri,rt,rl,rh⟩=q:=⟨_,rfl⟩
 obtain⟨bd,Kv⟩:∃q,gn (O.mk x0 x1 x2 x3 x4 x5 x6 x7 x8 x9 F G Z) ⟨vk,vn,vi,vt,vl,vh⟩=q:=⟨_,rfl⟩
 obtain⟨bk,yq⟩:∃q,isRef rk=q:=⟨_,rfl⟩
 have AN:tQ (O.mk x0 x1 x2 x3 x4 x5 x6 x7 x8 x9 F G Z) ⟨rk,rn,ri,rt,rl,rh⟩ ⟨vk,vn,vi,vt,vl,vh⟩=(bv&&bi&&bd&&bk):=by rw[<-Gg,<-WG,<-Kv,<-yq];rfl
 have HOK:=I AN
 have ye:yO (O.mk x0 x1 x2 x3 x4 x5 x6 x7 x8 x9 F G Z) ⟨rk,rn,ri,rt,rl,rh⟩=(bv&&bi):=by rw[<-Gg,<-WG];rfl
 have Wy:=I ye
 have Zw:=I Gg
 have HBI:=I WG
 have HBD:=I Kv
 have WH:=I yq
 clear AN ye Gg WG Kv yq
 go_enter func8,ntmps8
 go_upto_region 1 with (fail)
 refine cZ fun w1 gy=>?_
 have dX:U w w1:=by rw[<-gy];exact bl
 obtain⟨a1,Tp⟩:∃x,w.alloc (.cells #[.slice A0 x0.length c0,.slice A1 x1.length c1,.slice A2 x2.length c2,.slice A3 x3.length c3,.string x4,.int .i64 x5,.slice A6 x6.length c6,.slice A7 x7.length c7,.slice A8 x8.length c8,.bool x9,.int .i64 F,.int .i64 G,.int .i64 Z] 30)=x:=⟨_,rfl⟩
 obtain⟨a2,Tq⟩:∃x,a1.alloc (.cells #[.int .i64 rk,.int .i64 rn,.int .i64 ri,.string rt,.int .i64 rl,.int .i64 rh] 34)=x:=⟨_,rfl⟩
 obtain⟨a3,IH⟩:∃x,a2.alloc (.cells #[.int .i64 vk,.int .i64 vn,.int .i64 vi,.string vt,.int .i64 vl,.int .i64 vh] 34)=x:=⟨_,rfl⟩
 replace gy:a3.alloc (.cells #[.slice none 0 0,.slice none 0 0,.slice none 0 0,.slice none 0 0,.string ByteArray.empty,.int .i64 0,.slice none 0 0,.slice none 0 0,.slice none 0 0,.bool false,.int .i64 0,.int .i64 0,.int .i64 0] 30)=w1:=by rw[<-IH,<-Tq,<-Tp];exact gy
 have q1:a1.heap.size=w.heap.size+1:=by rw[<-Tp];simp
 have q2:a2.heap.size=w.heap.size+1+1:=by rw[<-Tq];simp[q1]
 have q3:a3.heap.size=w.heap.size+1+1+1:=by rw[<-IH];simp[q2]
 have e1:U a1 w1:=by rw[<-gy,<-IH,<-Tq];exact bl
 have e2:U a2 w1:=by rw[<-gy,<-IH];exact bl
 have e3:U a3 w1:=by rw[<-gy];exact bl
 have HA:=I (show SB w1 w.heap.size (.slice A0 x0.length c0) (.slice A1 x1.length c1) (.slice A2 x2.length c2) (.slice A3 x3.length c3) (.string x4) (.int .i64 x5) (.slice A6 x6.length c6) (.slice A7 x7.length c7) (.slice A8 x8.length c8) (.bool x9) (.int .i64 F) (.int .i64 G) (.int .i64 Z)from SB.on (by rw[<-Tp];exact SB.new _ _) e1)
 have js:=I (show cv w1 S w.heap.size (O.mk x0 x1 x2 x3 x4 x5 x6 x7 x8 x9 F G Z)from cv.de e1 (by rw[<-Tp];exact cv.zF (HV.out) rfl))
 have HB:=I (show V6 w1 (w.heap.size+1) rk rn ri rt rl rh from V6.on (by rw[<-Tq,<-q1];exact V6.new _ _) e2)
 have HD:=I (show V6 w1 (w.heap.size+1+1) vk vn vi vt vl vh from V6.on (by rw[<-IH,<-q2];exact V6.new _ _) e3)
 have HC:=I (show SB w1 (w.heap.size+1+1+1) (.slice none 0 0) (.slice none 0 0) (.slice none 0 0) (.slice none 0 0) (.string ByteArray.empty) (.int .i64 0) (.slice none 0 0) (.slice none 0 0) (.slice none 0 0) (.bool false) (.int .i64 0) (.int .i64 0) (.int .i64 0)from by rw[<-gy,<-q3];exact SB.new _ _)
 have jZ:w1.heap.size=w.heap.size+1+1+1+1:=by rw[<-gy,World.size_alloc,q3]
 clear q1 q2 q3 e1 e2 e3 gy Tp Tq IH a1 a2 a3
 obtain⟨ba,nL⟩:∃x,w.heap.size=x:=⟨_,rfl⟩
 obtain⟨bb,xT⟩:∃x,w.heap.size+1=x:=⟨_,rfl⟩
 obtain⟨bx,jl⟩:∃x,w.heap.size+1+1=x:=⟨_,rfl⟩
 obtain⟨bc,yf⟩:∃x,w.heap.size+1+1+1=x:=⟨_,rfl⟩
 rw[yf]at HC
 rw[jl]at HD
 rw[xT]at HB
 rw[nL]at HA js
 simp only[yf]
 simp only[jl]
 simp only[xT]
 simp only[nL]
 have HBA:=I nL
 have HBC:=I yf
 have am2:w.heap.size<=bc:=aF
 clear nL xT jl yf
 obtain⟨hla,hfa,acA,acB,acC,acD,acE,acF,acG,acH,acI,acJ,Tr,Ts,Tt⟩:=HA.out
 obtain⟨vlb,vfb,Tu,Tv,Tw,Tx,Ty,Tz⟩:=HB.out
 obtain⟨vld,vfd,TB,TC,TD,TE,TF,TG⟩:=HD.out
 obtain⟨IJ,Uk,Dk,Dl,Dm,Dn,Dp,Dq,Dr,Dt,Du,Dv,vO,vP,vQ⟩:=HC.out
 cases bv
 ·
  exact Zx
 cases bi
 ·
  exact Zx
 cases bd
 ·
  have Gj:tQ (O.mk x0 x1 x2 x3 x4 x5 x6 x7 x8 x9 F G Z) ⟨rk,rn,ri,rt,rl,rh⟩ ⟨vk,vn,vi,vt,vl,vh⟩=false:=ca
  have rQ:Bd (O.mk x0 x1 x2 x3 x4 x5 x6 x7 x8 x9 F G Z) ⟨rk,rn,ri,rt,rl,rh⟩ ⟨vk,vn,vi,vt,vl,vh⟩=111:=by unfold Bd;rw[if_neg b9]
  have vR:yZ (O.mk x0 x1 x2 x3 x4 x5 x6 x7 x8 x9 F G Z) ⟨rk,rn,ri,rt,rl,rh⟩ ⟨vk,vn,vi,vt,vl,vh⟩=sY:=by unfold yZ;rw[if_neg bG]
  have mj:=I rQ
  have Dw:=I vR
  clear rQ vR Gj
  go_wp2_with (first | (go_at_call 13;refine (iS (O.mk x0 x1 x2 x3 x4 x5 x6 x7 x8 x9 F G Z) ⟨rk,rn,ri,rt,rl,rh⟩ S _ _ (Y.cA.de (U.trans dX bl) HV.out) HR.out).mono ?_;rintro e w2 ⟨rfl,gC⟩;rw[Wy.out];have mS:U w1 w2:=U.trans bl gC;have Zy:U w w2:=U.trans dX mS;obtain⟨Dx,Dy,vS,vT,vU,vV,vW,vX,vY,vZ,we,wh,rK,rL,rM⟩:=HA.out.on mS;obtain⟨Dz,DA,wi,wj,wu,wv,wB,wC⟩:=HB.out.on mS;obtain⟨DB,DC,wD,wE,wF,wG,wH,wK⟩:=HD.out.on mS;obtain⟨ew,DD,wM,wN,wO,wP,wQ,wR,wS,wT,wU,wV,rN,rO,rP⟩:=HC.out.on mS;clear gC) | (go_at_call 31;refine (kK (O.mk x0 x1 x2 x3 x4 x5 x6 x7 x8 x9 F G Z) ⟨vk,vn,vi,vt,vl,vh⟩ S _ _ (cv.de (U.trans mS bl) js.out) HX.out).mono ?_;rintro e w3 ⟨rfl,jx⟩;rw[HBD.out];have pj:U w1 w3:=U.trans (U.trans mS bl) jx;have kw3:U w w3:=U.trans dX pj;obtain⟨Iy,Iz,zU,zV,zW,zX,zY,zZ,Aa,Ab,Ac,Ad,uk,um,uo⟩:=HA.out.on pj;obtain⟨IA,IB,Ae,Af,Ag,Ah,Aj,Al⟩:=HB.out.on pj;obtain⟨IC,ID,Am,An,Ao,Ap,Aq,Ar⟩:=HD.out.on pj;obtain⟨eK,IE,As,Au,Av,Aw,Ax,Ay,Az,AB,AD,AE,uq,ur,uv⟩:=HC.out.on pj;clear jx))
  all_goals exact bodyPost_ret (v:=.tuple #[.agg #[.slice none 0 0,.slice none 0 0,.slice none 0 0,.slice none 0 0,.string ByteArray.empty,.int .i64 0,.slice none 0 0,.slice none 0 0,.slice none 0 0,.bool false,.int .i64 0,.int .i64 0,.int .i64 0],.int .i64 111]) bY rfl (pc mj.out Dw.out bl)
 cases bk
 ·
  have Gj:tQ (O.mk x0 x1 x2 x3 x4 x5 x6 x7 x8 x9 F G Z) ⟨rk,rn,ri,rt,rl,rh⟩ ⟨vk,vn,vi,vt,vl,vh⟩=false:=ca
  have rQ:Bd (O.mk x0 x1 x2 x3 x4 x5 x6 x7 x8 x9 F G Z) ⟨rk,rn,ri,rt,rl,rh⟩ ⟨vk,vn,vi,vt,vl,vh⟩=111:=by unfold Bd;rw[if_neg b9]
  have vR:yZ (O.mk x0 x1 x2 x3 x4 x5 x6 x7 x8 x9 F G Z) ⟨rk,rn,ri,rt,rl,rh⟩ ⟨vk,vn,vi,vt,vl,vh⟩=sY:=by unfold yZ;rw[if_neg bG]
  have mj:=I rQ
  have Dw:=I vR
  clear rQ vR Gj
  go_wp2_with (first | (go_at_call 13;refine (iS (O.mk x0 x1 x2 x3 x4 x5 x6 x7 x8 x9 F G Z) ⟨rk,rn,ri,rt,rl,rh⟩ S _ _ (Y.cA.de (U.trans dX bl) HV.out) HR.out).mono ?_;rintro e w2 ⟨rfl,gC⟩;rw[Wy.out];have mS:U w1 w2:=U.trans bl gC;have Zy:U w w2:=U.trans dX mS;obtain⟨Dx,Dy,vS,vT,vU,vV,vW,vX,vY,vZ,we,wh,rK,rL,rM⟩:=HA.out.on mS;obtain⟨Dz,DA,wi,wj,wu,wv,wB,wC⟩:=HB.out.on mS;obtain⟨DB,DC,wD,wE,wF,wG,wH,wK⟩:=HD.out.on mS;obtain⟨ew,DD,wM,wN,wO,wP,wQ,wR,wS,wT,wU,wV,rN,rO,rP⟩:=HC.out.on mS;clear gC) | (go_at_call 31;refine (kK (O.mk x0 x1 x2 x3 x4 x5 x6 x7 x8 x9 F G Z) ⟨vk,vn,vi,vt,vl,vh⟩ S _ _ (cv.de (U.trans mS bl) js.out) HX.out).mono ?_;rintro e w3 ⟨rfl,jx⟩;rw[HBD.out];have pj:U w1 w3:=U.trans (U.trans mS bl) jx;have kw3:U w w3:=U.trans dX pj;obtain⟨Iy,Iz,zU,zV,zW,zX,zY,zZ,Aa,Ab,Ac,Ad,uk,um,uo⟩:=HA.out.on pj;obtain⟨IA,IB,Ae,Af,Ag,Ah,Aj,Al⟩:=HB.out.on pj;obtain⟨IC,ID,Am,An,Ao,Ap,Aq,Ar⟩:=HD.out.on pj;obtain⟨eK,IE,As,Au,Av,Aw,Ax,Ay,Az,AB,AD,AE,uq,ur,uv⟩:=HC.out.on pj;clear jx) | (go_at_call 32;refine (oU ⟨rk,rn,ri,rt,rl,rh⟩ _).mono ?_;rintro e w4 ⟨rfl,sU⟩;rw[WH.out];have tB:U w1 w4:=U.trans (U.trans pj bl) sU;have kw4:U w w4:=U.trans dX tB;obtain⟨OH,OK,Em,En,Eo,Ep,Er,Es,Et,Eu,Ev,Ew,zp,zq,zr⟩:=HA.out.on tB;obtain⟨OL,OM,Ex,Ey,Ez,EB,EC,ED⟩:=HB.out.on tB;obtain⟨ON,OO,EE,EF,EG,EH,EI,EJ⟩:=HD.out.on tB;obtain⟨OP,OQ,EK,EL,EM,EN,EP,ER,ES,ET,EU,EW,zt,zu,zv⟩:=HC.out.on tB;clear sU))
  all_goals exact bodyPost_ret (v:=.tuple #[.agg #[.slice none 0 0,.slice none 0 0,.slice none 0 0,.slice none 0 0,.string ByteArray.empty,.int .i64 0,.slice none 0 0,.slice none 0 0,.slice none 0 0,.bool false,.int .i64 0,.int .i64 0,.int .i64 0],.int .i64 111]) bY rfl (pc mj.out Dw.out bl)
 have TH:tQ (O.mk x0 x1 x2 x3 x4 x5 x6 x7 x8 x9 F G Z) ⟨rk,rn,ri,rt,rl,rh⟩ ⟨vk,vn,vi,vt,vl,vh⟩=true:=by rw[HOK.out];rfl
 have WI:=I TH
 clear TH
 go_upto_region 4 with (first | (go_at_call 13;refine (iS (O.mk x0 x1 x2 x3 x4 x5 x6 x7 x8 x9 F G Z) ⟨rk,rn,ri,rt,rl,rh⟩ S _ _ (Y.cA.de (U.trans dX bl) HV.out) HR.out).mono ?_;rintro e w2 ⟨rfl,gC⟩;rw[Wy.out];have mS:U w1 w2:=U.trans bl gC;have Zy:U w w2:=U.trans dX mS;obtain⟨Dx,Dy,vS,vT,vU,vV,vW,vX,vY,vZ,we,wh,rK,rL,rM⟩:=HA.out.on mS;obtain⟨Dz,DA,wi,wj,wu,wv,wB,wC⟩:=HB.out.on mS;obtain⟨DB,DC,wD,wE,wF,wG,wH,wK⟩:=HD.out.on mS;obtain⟨ew,DD,wM,wN,wO,wP,wQ,wR,wS,wT,wU,wV,rN,rO,rP⟩:=HC.out.on mS;clear gC) | (go_at_call 31;refine (kK (O.mk x0 x1 x2 x3 x4 x5 x6 x7 x8 x9 F G Z) ⟨vk,vn,vi,vt,vl,vh⟩ S _ _ (cv.de (U.trans mS bl) js.out) HX.out).mono ?_;rintro e w3 ⟨rfl,jx⟩;rw[HBD.out];have pj:U w1 w3:=U.trans (U.trans mS bl) jx;have kw3:U w w3:=U.trans dX pj;obtain⟨Iy,Iz,zU,zV,zW,zX,zY,zZ,Aa,Ab,Ac,Ad,uk,um,uo⟩:=HA.out.on pj;obtain⟨IA,IB,Ae,Af,Ag,Ah,Aj,Al⟩:=HB.out.on pj;obtain⟨IC,ID,Am,An,Ao,Ap,Aq,Ar⟩:=HD.out.on pj;obtain⟨eK,IE,As,Au,Av,Aw,Ax,Ay,Az,AB,AD,AE,uq,ur,uv⟩:=HC.out.on pj;clear jx) | (go_at_call 32;refine (oU ⟨rk,rn,ri,rt,rl,rh⟩ _).mono ?_;rintro e w4 ⟨rfl,sU⟩;rw[WH.out];have tB:U w1 w4:=U.trans (U.trans pj bl) sU;have kw4:U w w4:=U.trans dX tB;obtain⟨OH,OK,Em,En,Eo,Ep,Er,Es,Et,Eu,Ev,Ew,zp,zq,zr⟩:=HA.out.on tB;obtain⟨OL,OM,Ex,Ey,Ez,EB,EC,ED⟩:=HB.out.on tB;obtain⟨ON,OO,EE,EF,EG,EH,EI,EJ⟩:=HD.out.on tB;obtain⟨OP,OQ,EK,EL,EM,EN,EP,ER,ES,ET,EU,EW,zt,zu,zv⟩:=HC.out.on tB;clear sU) | (go_at_call 33;refine (Db x0 x1 x2 x3 x4 x5 x6 x7 x8 x9 F G Z S _ _ (Y.cA.de (U.trans dX (U.trans tB bl)) HV.out) HWT.out).mono ?_;rintro e w6 ⟨v0,v1,v2,v3,v6,v7,v8,L0,L1,L2,L3,L6,L7,L8,rfl,hE,SC⟩;have kk6:U w1 w6:=U.trans tB (U.trans bl SC);obtain⟨LF,WJ,hNF,hLF⟩:=G5 (x9:=x9) hE HG.out.1 HG.out.2.1 HG.out.2.2.1 HG.out.2.2.2.1 HG.out.2.2.2.2;have hLT:=WJ.lt;obtain⟨B0,d0,-,B1,d1,-,B2,d2,-,B3,d3,-,B6,d6,-,B7,d7,-,B8,d8,-,-,tK,-⟩:=O.mw WJ;simp only[List.cons.injEq,and_true,true_and]at tK;obtain⟨rfl,rfl,rfl,rfl,rfl,rfl,rfl⟩:=tK;have HOF:=I WJ;have HNF:=I hNF;have HLF:=I (show ∀b,b∈LF->w1.heap.size<=b from fun b hb=>aw (U.size (show U w1 _ from U.trans tB bl)) (hLF b hb));have Yo:=I hLT;have hz6:=kk6.size;have HCP:=I SC.size;clear hE SC WJ hNF hLF hLT))
 refine cZ fun wr jO=>?_
 have kr:U w1 wr:=by rw[<-jO];exact U.trans kk6 bl
 have TI:=U.trans dX kr
 have Wr:U w6 wr:=by rw[<-jO];exact bl
 have SR:SB wr w6.heap.size (.slice B0 x0.length d0) (.slice B1 x1.length d1) (.slice B2 x2.length d2) (.slice B3 x3.length d3) (.string x4) (.int .i64 x5) (.slice B6 x6.length d6) (.slice B7 x7.length d7) (.slice B8 x8.length d8) (.bool x9) (.int .i64 F) (.int .i64 G) (.int .i64 Z):=by rw[<-jO];exact SB.new _ _
 have Ku:=I (HB.out.on kr)
 have HRD:=I (HD.out.on kr)
 have F0:=I (HC.out.on kr)
 have HW:=I (show WO w1.heap.size wr w6.heap.size (O.mk x0 x1 x2 x3 x4 x5 x6 x7 x8 x9 F G Z) [.slice B0 x0.length d0,.slice B1 x1.length d1,.slice B2 x2.length d2,.slice B3 x3.length d3,.string x4,.int .i64 x5,.slice B6 x6.length d6,.slice B7 x7.length d7,.slice B8 x8.length d8,.bool x9,.int .i64 F,.int .i64 G,.int .i64 Z] LF from⟨SR.1,SR.2.1,fun j hj=>agp SR j hj,HOF.out.de Wr,HNF.out,fun b hb=>⟨HLF.out b hb,fun e=>by have:=Yo.out b hb;omega⟩⟩)
 have Kl:=I (show w1.heap.size<=w6.heap.size from hz6)
 have hq9:w6.heap.size<wr.heap.size:=SR.1
 clear SR jO Wr Yo HLF HOF HNF HCP kk6
 clear hla hfa acA acB acC acD acE acF acG acH acI acJ Tr Ts Tt
 clear IJ Uk Dk Dl Dm Dn Dp Dq Dr Dt Du Dv vO vP vQ
 clear vlb vfb Tu Tv Tw Tx Ty Tz
 clear vld vfd TB TC TD TE TF TG
 clear Dx Dy vS vT vU vV vW vX vY vZ we wh rK rL rM
 clear ew DD wM wN wO wP wQ wR wS wT wU wV rN rO rP
 clear Dz DA wi wj wu wv wB wC
 clear DB DC wD wE wF wG wH wK
 clear Iy Iz zU zV zW zX zY zZ Aa Ab Ac Ad uk um uo
 clear eK IE As Au Av Aw Ax Ay Az AB AD AE uq ur uv
 clear IA IB Ae Af Ag Ah Aj Al
 clear IC ID Am An Ao Ap Aq Ar
 clear OH OK Em En Eo Ep Er Es Et Eu Ev Ew zp zq zr
 clear OP OQ EK EL EM EN EP ER ES ET EU EW zt zu zv
 clear OL OM Ex Ey Ez EB EC ED
 clear ON OO EE EF EG EH EI EJ
 generalize w6.heap.size=q at HW hq9 Kl |-
 obtain⟨vlb,vfb,Tu,Tv,Tw,Tx,Ty,Tz⟩:=Ku.out
 obtain⟨vld,vfd,TB,TC,TD,TE,TF,TG⟩:=HRD.out
 have hrk:=WH.out
 unfold isRef at hrk
 simp only[Bool.and_eq_true,decide_eq_true_eq]at hrk
 obtain⟨S1,OZ⟩:∃x,(lX (O.mk x0 x1 x2 x3 x4 x5 x6 x7 x8 x9 F G Z) ⟨rk,rn,ri,rt,rl,rh⟩ ⟨vk,vn,vi,vt,vl,vh⟩).1=x:=⟨_,rfl⟩
 obtain⟨C1,pw⟩:∃x,(lX (O.mk x0 x1 x2 x3 x4 x5 x6 x7 x8 x9 F G Z) ⟨rk,rn,ri,rt,rl,rh⟩ ⟨vk,vn,vi,vt,vl,vh⟩).2=x:=⟨_,rfl⟩
 have FK:=I OZ
 have mc:=I pw
 clear OZ pw
 obtain⟨y0,y1,y2,y3,y4,y5,y6,y7,y8,y9,te,sV,vr⟩:=S1
 go_upto_region 5 with (go_at_call 34;refine (JK (O.mk x0 x1 x2 x3 x4 x5 x6 x7 x8 x9 F G Z) ⟨rk,rn,ri,rt,rl,rh⟩ Zw.out HBI.out hrk ⟨vk,vn,vi,vt,vl,vh⟩ w1.heap.size q wr _ _ HW.out kr.size Kl.out HR.out HX.out (HP.out.on TI)).mono ?_;rintro e w7 ⟨rfl,⟨us7,L7,hW7⟩,hK7⟩;rw[mc.out];rw[FK.out]at hW7;have TK:=I hW7;have HK7:=I hK7;clear hW7 hK7)
 obtain⟨E0,f0,E1,f1,E2,f2,E3,f3,E6,f6,E7,f7,E8,f8,rfl,hsb⟩:=TK.out.sb
 have HSB:=I hsb
 clear hsb
 have acO:bc<w1.heap.size:=by have:=HBC.out;omega
 have TL:=I (F0.out.block HK7.out.size (HK7.out.block bc acO))
 have acP:U w w7:=HK7.out.DX TI dX.size
 have am8:bc≠q:=by have:=Kl.out;omega
 clear F0
 obtain⟨hls,hfs,acQ,acR,acS,acT,acU,acV,acW,acX,acY,acZ,TM,TN,TO⟩:=HSB.out
 obtain⟨IJ,Uk,Dk,Dl,Dm,Dn,Dp,Dq,Dr,Dt,Du,Dv,vO,vP,vQ⟩:=TL.out
 by_cases h0:0<C1
 case pos =>
  have d0:decide (0<C1)=true:=ay h0
  have rQ:Bd (O.mk x0 x1 x2 x3 x4 x5 x6 x7 x8 x9 F G Z) ⟨rk,rn,ri,rt,rl,rh⟩ ⟨vk,vn,vi,vt,vl,vh⟩=C1:=bI
  have vR:yZ (O.mk x0 x1 x2 x3 x4 x5 x6 x7 x8 x9 F G Z) ⟨rk,rn,ri,rt,rl,rh⟩ ⟨vk,vn,vi,vt,vl,vh⟩=sY:=by unfold yZ;rw[if_neg (fun h=>by have h2:=h.2;rw[mc.out]at h2;omega)]
  have mj:=I rQ
  have Dw:=I vR
  clear rQ vR
  go_wp2_with (fail)
  all_goals exact bodyPost_ret (v:=.tuple #[.agg #[.slice none 0 0,.slice none 0 0,.slice none 0 0,.slice none 0 0,.string ByteArray.empty,.int .i64 0,.slice none 0 0,.slice none 0 0,.slice none 0 0,.bool false,.int .i64 0,.int .i64 0,.int .i64 0],.int .i64 C1]) bY rfl (pc mj.out Dw.out bl)
 have d0:decide (0<C1)=false:=ax h0
 go_wp2_with (fail)
 refine Ha (Q:=bodyPost _ _ _) fun w8 I8=>?_
 obtain⟨S8,o8⟩:=Yc TL.out I8
 clear I8
 clear hls hfs acQ acR acS acT acU acV acW acX acY acZ TM TN TO
 clear IJ Uk Dk Dl Dm Dn Dp Dq Dr Dt Du Dv vO vP vQ
 obtain⟨-,-,s0,s1,s2,s3,s4,s5,s6,s7,s8,s9,s10,s11,s12⟩:=S8
 have hO8:=I (TK.out.own.sC o8 (fun b hb e=>by have:=(TK.out.low b hb).1;omega))
 have ac0:U w w8:=o8.DX acP (fun x hx e=>by have:=HBC.out;omega)
 have rQ:Bd (O.mk x0 x1 x2 x3 x4 x5 x6 x7 x8 x9 F G Z) ⟨rk,rn,ri,rt,rl,rh⟩ ⟨vk,vn,vi,vt,vl,vh⟩=C1:=bI
 have vR:yZ (O.mk x0 x1 x2 x3 x4 x5 x6 x7 x8 x9 F G Z) ⟨rk,rn,ri,rt,rl,rh⟩ ⟨vk,vn,vi,vt,vl,vh⟩=.mk y0 y1 y2 y3 y4 y5 y6 y7 y8 y9 te sV vr:=by unfold yZ;rw[if_pos ⟨WI.out,by rw[mc.out];omega⟩];exact FK.out
 have mj:=I rQ
 have Dw:=I vR
 clear rQ vR
 exact bodyPost_ret (v:=.tuple #[.agg #[.slice E0 y0.length f0,.slice E1 y1.length f1,.slice E2 y2.length f2,.slice E3 y3.length f3,.string y4,.int .i64 y5,.slice E6 y6.length f6,.slice E7 y7.length f7,.slice E8 y8.length f8,.bool y9,.int .i64 te,.int .i64 sV,.int .i64 vr],.int .i64 C1]) (by simp[results,results8,go_sem,s0,s1,s2,s3,s4,s5,s6,s7,s8,s9,s10,s11,s12];try rfl) rfl ⟨_,L7,by rw[mj.out],by rw[Dw.out];exact hO8.out,TK.out.nd,fun b hb=>by have:=(TK.out.low b hb).1;have:=dX.size;omega,ac0⟩
end Go.Proofs.YtjngkknbpfgdcaaGreatDoor
