import Derived.Test.YtjngkknbpfgdcaaGreatDoorPR3
import Derived.Test.YtjngkknbpfgdcaaGreatDoorPK2b
import Derived.Test.YtjngkknbpfgdcaaGreatDoorPS9
import Derived.Deep.MidRow
import Derived.Test.YtjngkknbpfgdcaaGreatDoorPK4
import Derived.Test.YtjngkknbpfgdcaaGreatDoorPS3z
set_option linter.unusedVariables false
set_option linter.unusedSimpArgs false
set_option maxRecDepth 100000
set_option maxHeartbeats 8000000
namespace Go.Proofs.YtjngkknbpfgdcaaGreatDoor
open Go.RowKit
theorem Be:WvC 7:=by
 intro s r v S w vs htab F1 hv hr hx hwt
 have HX:=hide hx
 have HR:=hide hr
 have HT:=hide htab
 have HP:=hide F1
 have HV:=hide hv
 have HWT:=hide hwt
 obtain⟨x0,x1,x2,x3,x4,x5,x6,x7,x8,x9,x10,x11,x12⟩:=s
 obtain⟨A0,c0,A1,c1,A2,c2,A3,c3,A6,c6,A7,c7,A8,c8,rfl,g0,g1,g2,g3,g4,g5,g6,g7,g8,-,g10,g11,g12⟩:=cv.vals hv
 have HG:=hide (show x4.size<=maxLen/\fD x5/\fD x10/\fD x11/\fD x12 from⟨g4,g5,g10,g11,g12⟩)
 obtain⟨rk,rn,ri,rt,rl,rh⟩:=r
 obtain⟨vk,vn,vi,vt,vl,vh⟩:=v
 simp only[cV.val]
 clear hv htab F1 hr hx hwt g0 g1 g2 g3 g4 g5 g6 g7 g8 g10 g11 g12
 obtain⟨bv,hbv⟩:∃q,gJ (cv.mk x0 x1 x2 x3 x4 x5 x6 x7 x8 x9 x10 x11 x12)=q:=⟨_,rfl⟩
 obtain⟨bi,hbi⟩:∃q,inB (cv.mk x0 x1 x2 x3 x4 x5 x6 x7 x8 x9 x10 x11 x12) ⟨rk,rn,ri,rt,rl,rh⟩=q:=⟨_,rfl⟩
 obtain⟨bd,hbd⟩:∃q,iX (cv.mk x0 x1 x2 x3 x4 x5 x6 x7 x8 x9 x10 x11 x12) ⟨vk,vn,vi,vt,vl,vh⟩=q:=⟨_,rfl⟩
 obtain⟨bk,hbk⟩:∃q,isRef rk=q:=⟨_,rfl⟩
 have hok:yo (cv.mk x0 x1 x2 x3 x4 x5 x6 x7 x8 x9 x10 x11 x12) ⟨rk,rn,ri,rt,rl,rh⟩ ⟨vk,vn,vi,vt,vl,vh⟩=(bv&&bi&&bd&&bk):=by rw[<-hbv,<-hbi,<-hbd,<-hbk];rfl
 have HOK:=hide hok
 have Ek:S7 (cv.mk x0 x1 x2 x3 x4 x5 x6 x7 x8 x9 x10 x11 x12) ⟨rk,rn,ri,rt,rl,rh⟩=(bv&&bi):=by rw[<-hbv,<-hbi];rfl
 have HIV:=hide Ek
 have Yj:=hide hbv
 have HBI:=hide hbi
 have HBD:=hide hbd
 have TK:=hide hbk
 clear hok Ek hbv hbi hbd hbk
 go_enter Tryz.func7,Tryz.ntmps7
 go_upto_region 1 with (fail)
 refine dO fun w1 hw1=>?_
 have hbw:cE w w1:=by rw[<-hw1];exact bl
 obtain⟨a1,ha1⟩:∃x,w.alloc (.cells #[.slice A0 x0.length c0,.slice A1 x1.length c1,.slice A2 x2.length c2,.slice A3 x3.length c3,.string x4,.int .i64 x5,.slice A6 x6.length c6,.slice A7 x7.length c7,.slice A8 x8.length c8,.bool x9,.int .i64 x10,.int .i64 x11,.int .i64 x12] 30)=x:=⟨_,rfl⟩
 obtain⟨a2,ha2⟩:∃x,a1.alloc (.cells #[.int .i64 rk,.int .i64 rn,.int .i64 ri,.string rt,.int .i64 rl,.int .i64 rh] 34)=x:=⟨_,rfl⟩
 obtain⟨a3,JD⟩:∃x,a2.alloc (.cells #[.int .i64 vk,.int .i64 vn,.int .i64 vi,.string vt,.int .i64 vl,.int .i64 vh] 34)=x:=⟨_,rfl⟩
 replace hw1:a3.alloc (.cells #[.slice none 0 0,.slice none 0 0,.slice none 0 0,.slice none 0 0,.string ByteArray.empty,.int .i64 0,.slice none 0 0,.slice none 0 0,.slice none 0 0,.bool false,.int .i64 0,.int .i64 0,.int .i64 0] 30)=w1:=by rw[<-JD,<-ha2,<-ha1];exact hw1
 have q1:a1.heap.size=w.heap.size+1:=by rw[<-ha1];simp
 have q2:a2.heap.size=w.heap.size+1+1:=by rw[<-ha2];simp[q1]
 have q3:a3.heap.size=w.heap.size+1+1+1:=by rw[<-JD];simp[q2]
 have e1:cE a1 w1:=by rw[<-hw1,<-JD,<-ha2];exact bl
 have e2:cE a2 w1:=by rw[<-hw1,<-JD];exact bl
 have e3:cE a3 w1:=by rw[<-hw1];exact bl
 have HA:=hide (show SB w1 w.heap.size (.slice A0 x0.length c0) (.slice A1 x1.length c1) (.slice A2 x2.length c2) (.slice A3 x3.length c3) (.string x4) (.int .i64 x5) (.slice A6 x6.length c6) (.slice A7 x7.length c7) (.slice A8 x8.length c8) (.bool x9) (.int .i64 x10) (.int .i64 x11) (.int .i64 x12)from SB.on (by rw[<-ha1];exact SB.new _ _) e1)
 have jF:=hide (show cG w1 S w.heap.size (cv.mk x0 x1 x2 x3 x4 x5 x6 x7 x8 x9 x10 x11 x12)from cG.bel e1 (by rw[<-ha1];exact cG.EX (HV.out) rfl))
 have HB:=hide (show V6 w1 (w.heap.size+1) rk rn ri rt rl rh from V6.on (by rw[<-ha2,<-q1];exact V6.new _ _) e2)
 have HD:=hide (show V6 w1 (w.heap.size+1+1) vk vn vi vt vl vh from V6.on (by rw[<-JD,<-q2];exact V6.new _ _) e3)
 have HC:=hide (show SB w1 (w.heap.size+1+1+1) (.slice none 0 0) (.slice none 0 0) (.slice none 0 0) (.slice none 0 0) (.string ByteArray.empty) (.int .i64 0) (.slice none 0 0) (.slice none 0 0) (.slice none 0 0) (.bool false) (.int .i64 0) (.int .i64 0) (.int .i64 0)from by rw[<-hw1,<-q3];exact SB.new _ _)
 have hz1:w1.heap.size=w.heap.size+1+1+1+1:=by rw[<-hw1,World.size_alloc,q3]
 clear q1 q2 q3 e1 e2 e3 hw1 ha1 ha2 JD a1 a2 a3
 obtain⟨ba,hba⟩:∃x,w.heap.size=x:=⟨_,rfl⟩
 obtain⟨bb,hbb⟩:∃x,w.heap.size+1=x:=⟨_,rfl⟩
 obtain⟨bx,hbx⟩:∃x,w.heap.size+1+1=x:=⟨_,rfl⟩
 obtain⟨bc,hbc⟩:∃x,w.heap.size+1+1+1=x:=⟨_,rfl⟩
 rw[hbc]at HC
 rw[hbx]at HD
 rw[hbb]at HB
 rw[hba]at HA jF
 simp only[hbc]
 simp only[hbx]
 simp only[hbb]
 simp only[hba]
 have HBA:=hide hba
 have HBC:=hide hbc
 have aiY:w.heap.size<=bc:=aB
 clear hba hbb hbx hbc
 obtain⟨hla,hfa,aap,aaq,aar,aas,aat,aau,aav,aaw,aax,aay,Rz,RA,RB⟩:=HA.out
 obtain⟨vlb,vfb,RD,RE,RF,RG,RH,RI⟩:=HB.out
 obtain⟨vld,vfd,RL,RM,RN,RO,RP,RQ⟩:=HD.out
 obtain⟨hlc,hfc,Ij,Ik,Il,Im,Io,Ip,Iq,Ir,Is,Iu,Bn,Bo,Bp⟩:=HC.out
 cases bv
 ·
  have hno:yo (cv.mk x0 x1 x2 x3 x4 x5 x6 x7 x8 x9 x10 x11 x12) ⟨rk,rn,ri,rt,rl,rh⟩ ⟨vk,vn,vi,vt,vl,vh⟩=false:=cm
  have hc0:BC (cv.mk x0 x1 x2 x3 x4 x5 x6 x7 x8 x9 x10 x11 x12) ⟨rk,rn,ri,rt,rl,rh⟩ ⟨vk,vn,vi,vt,vl,vh⟩=111:=by unfold BC;rw[if_neg cj]
  have ht0:xY (cv.mk x0 x1 x2 x3 x4 x5 x6 x7 x8 x9 x10 x11 x12) ⟨rk,rn,ri,rt,rl,rh⟩ ⟨vk,vn,vi,vt,vl,vh⟩=qR:=by unfold xY;rw[if_neg bC]
  have mz:=hide hc0
  have HT0:=hide ht0
  clear hc0 ht0 hno
  go_wp2_with (first | (go_at_call 10;refine (lU (cv.mk x0 x1 x2 x3 x4 x5 x6 x7 x8 x9 x10 x11 x12) S _ _ (HT.out.on (cE.trans hbw bl)) (Dat.cC.bel (cE.trans hbw bl) HV.out)).mono ?_;rintro e w2 ⟨rfl,hb2⟩;rw[Yj.out];have mn:cE w1 w2:=cE.trans bl hb2;have Yk:cE w w2:=cE.trans hbw mn;obtain⟨Cc,Cd,uX,uY,sx,qV,qW,qX,qY,qZ,q9,ra,nh,ni,nj⟩:=HA.out.on mn;obtain⟨Ce,Cf,uZ,va,vb,vc,vd,ve⟩:=HB.out.on mn;obtain⟨Cg,Ch,vg,vm,vo,vr,vw,vx⟩:=HD.out.on mn;obtain⟨fB,Ci,vy,vz,vA,vB,vC,vD,vE,vF,vG,vH,qN,qO,qP⟩:=HC.out.on mn;clear hb2))
  all_goals exact bodyPost_ret (v:=.tuple #[.agg #[.slice none 0 0,.slice none 0 0,.slice none 0 0,.slice none 0 0,.string ByteArray.empty,.int .i64 0,.slice none 0 0,.slice none 0 0,.slice none 0 0,.bool false,.int .i64 0,.int .i64 0,.int .i64 0],.int .i64 111]) bp rfl (oC mz.out HT0.out bl)
 cases bk
 ·
  have hno:yo (cv.mk x0 x1 x2 x3 x4 x5 x6 x7 x8 x9 x10 x11 x12) ⟨rk,rn,ri,rt,rl,rh⟩ ⟨vk,vn,vi,vt,vl,vh⟩=false:=cm
  have hc0:BC (cv.mk x0 x1 x2 x3 x4 x5 x6 x7 x8 x9 x10 x11 x12) ⟨rk,rn,ri,rt,rl,rh⟩ ⟨vk,vn,vi,vt,vl,vh⟩=111:=by unfold BC;rw[if_neg cj]
  have ht0:xY (cv.mk x0 x1 x2 x3 x4 x5 x6 x7 x8 x9 x10 x11 x12) ⟨rk,rn,ri,rt,rl,rh⟩ ⟨vk,vn,vi,vt,vl,vh⟩=qR:=by unfold xY;rw[if_neg bC]
  have mz:=hide hc0
  have HT0:=hide ht0
  clear hc0 ht0 hno
  go_wp2_with (first | (go_at_call 10;refine (lU (cv.mk x0 x1 x2 x3 x4 x5 x6 x7 x8 x9 x10 x11 x12) S _ _ (HT.out.on (cE.trans hbw bl)) (Dat.cC.bel (cE.trans hbw bl) HV.out)).mono ?_;rintro e w2 ⟨rfl,hb2⟩;rw[Yj.out];have mn:cE w1 w2:=cE.trans bl hb2;have Yk:cE w w2:=cE.trans hbw mn;obtain⟨Cc,Cd,uX,uY,sx,qV,qW,qX,qY,qZ,q9,ra,nh,ni,nj⟩:=HA.out.on mn;obtain⟨Ce,Cf,uZ,va,vb,vc,vd,ve⟩:=HB.out.on mn;obtain⟨Cg,Ch,vg,vm,vo,vr,vw,vx⟩:=HD.out.on mn;obtain⟨fB,Ci,vy,vz,vA,vB,vC,vD,vE,vF,vG,vH,qN,qO,qP⟩:=HC.out.on mn;clear hb2) | (go_at_call 26;refine (jY ⟨rk,rn,ri,rt,rl,rh⟩ _).mono ?_;rintro e w3 ⟨rfl,hb3⟩;rw[TK.out];have oJ:cE w1 w3:=cE.trans (cE.trans mn bl) hb3;have kw3:cE w w3:=cE.trans hbw oJ;obtain⟨Gr,Gs,yR,yS,yT,uQ,uR,uS,tj,tk,tn,tp,o7,o9,pc⟩:=HA.out.on oJ;obtain⟨Gt,Gu,yU,yV,yW,yX,yY,yZ⟩:=HB.out.on oJ;obtain⟨Gv,Gw,za,zb,zc,zd,ze,zf⟩:=HD.out.on oJ;obtain⟨fL,Gx,zg,zh,zi,zj,zk,zl,zm,zn,zo,zp,tF,tG,tH⟩:=HC.out.on oJ;clear hb3))
  all_goals exact bodyPost_ret (v:=.tuple #[.agg #[.slice none 0 0,.slice none 0 0,.slice none 0 0,.slice none 0 0,.string ByteArray.empty,.int .i64 0,.slice none 0 0,.slice none 0 0,.slice none 0 0,.bool false,.int .i64 0,.int .i64 0,.int .i64 0],.int .i64 111]) bp rfl (oC mz.out HT0.out bl)
 cases bi
 ·
  have hno:yo (cv.mk x0 x1 x2 x3 x4 x5 x6 x7 x8 x9 x10 x11 x12) ⟨rk,rn,ri,rt,rl,rh⟩ ⟨vk,vn,vi,vt,vl,vh⟩=false:=cm
  have hc0:BC (cv.mk x0 x1 x2 x3 x4 x5 x6 x7 x8 x9 x10 x11 x12) ⟨rk,rn,ri,rt,rl,rh⟩ ⟨vk,vn,vi,vt,vl,vh⟩=111:=by unfold BC;rw[if_neg cj]
  have ht0:xY (cv.mk x0 x1 x2 x3 x4 x5 x6 x7 x8 x9 x10 x11 x12) ⟨rk,rn,ri,rt,rl,rh⟩ ⟨vk,vn,vi,vt,vl,vh⟩=qR:=by unfold xY;rw[if_neg bC]
  have mz:=hide hc0
  have HT0:=hide ht0
  clear hc0 ht0 hno
  go_wp2_with (first | (go_at_call 10;refine (lU (cv.mk x0 x1 x2 x3 x4 x5 x6 x7 x8 x9 x10 x11 x12) S _ _ (HT.out.on (cE.trans hbw bl)) (Dat.cC.bel (cE.trans hbw bl) HV.out)).mono ?_;rintro e w2 ⟨rfl,hb2⟩;rw[Yj.out];have mn:cE w1 w2:=cE.trans bl hb2;have Yk:cE w w2:=cE.trans hbw mn;obtain⟨Cc,Cd,uX,uY,sx,qV,qW,qX,qY,qZ,q9,ra,nh,ni,nj⟩:=HA.out.on mn;obtain⟨Ce,Cf,uZ,va,vb,vc,vd,ve⟩:=HB.out.on mn;obtain⟨Cg,Ch,vg,vm,vo,vr,vw,vx⟩:=HD.out.on mn;obtain⟨fB,Ci,vy,vz,vA,vB,vC,vD,vE,vF,vG,vH,qN,qO,qP⟩:=HC.out.on mn;clear hb2) | (go_at_call 26;refine (jY ⟨rk,rn,ri,rt,rl,rh⟩ _).mono ?_;rintro e w3 ⟨rfl,hb3⟩;rw[TK.out];have oJ:cE w1 w3:=cE.trans (cE.trans mn bl) hb3;have kw3:cE w w3:=cE.trans hbw oJ;obtain⟨Gr,Gs,yR,yS,yT,uQ,uR,uS,tj,tk,tn,tp,o7,o9,pc⟩:=HA.out.on oJ;obtain⟨Gt,Gu,yU,yV,yW,yX,yY,yZ⟩:=HB.out.on oJ;obtain⟨Gv,Gw,za,zb,zc,zd,ze,zf⟩:=HD.out.on oJ;obtain⟨fL,Gx,zg,zh,zi,zj,zk,zl,zm,zn,zo,zp,tF,tG,tH⟩:=HC.out.on oJ;clear hb3) | (go_at_call 27;refine (eB (cv.mk x0 x1 x2 x3 x4 x5 x6 x7 x8 x9 x10 x11 x12) ⟨rk,rn,ri,rt,rl,rh⟩ S _ _ (cG.bel (cE.trans oJ bl) jF.out) HR.out).mono ?_;rintro e w4 ⟨rfl,hb4⟩;rw[HBI.out];have sR:cE w1 w4:=cE.trans (cE.trans oJ bl) hb4;have kw4:cE w w4:=cE.trans hbw sR;obtain⟨LZ,Ma,CL,CM,CN,CO,CP,CQ,yz,xn,xo,xp,rM,rN,rO⟩:=HA.out.on sR;obtain⟨Mb,Mc,CR,CS,CT,CU,CV,CW⟩:=HB.out.on sR;obtain⟨Md,Mf,CX,CY,CZ,C0,C2,C3⟩:=HD.out.on sR;obtain⟨Mg,Mh,C4,C5,C6,C7,C8,C9,Da,Db,Dc,Dd,yr,yt,yu⟩:=HC.out.on sR;clear hb4))
  all_goals exact bodyPost_ret (v:=.tuple #[.agg #[.slice none 0 0,.slice none 0 0,.slice none 0 0,.slice none 0 0,.string ByteArray.empty,.int .i64 0,.slice none 0 0,.slice none 0 0,.slice none 0 0,.bool false,.int .i64 0,.int .i64 0,.int .i64 0],.int .i64 111]) bp rfl (oC mz.out HT0.out bl)
 cases bd
 ·
  have hno:yo (cv.mk x0 x1 x2 x3 x4 x5 x6 x7 x8 x9 x10 x11 x12) ⟨rk,rn,ri,rt,rl,rh⟩ ⟨vk,vn,vi,vt,vl,vh⟩=false:=cm
  have hc0:BC (cv.mk x0 x1 x2 x3 x4 x5 x6 x7 x8 x9 x10 x11 x12) ⟨rk,rn,ri,rt,rl,rh⟩ ⟨vk,vn,vi,vt,vl,vh⟩=111:=by unfold BC;rw[if_neg cj]
  have ht0:xY (cv.mk x0 x1 x2 x3 x4 x5 x6 x7 x8 x9 x10 x11 x12) ⟨rk,rn,ri,rt,rl,rh⟩ ⟨vk,vn,vi,vt,vl,vh⟩=qR:=by unfold xY;rw[if_neg bC]
  have mz:=hide hc0
  have HT0:=hide ht0
  clear hc0 ht0 hno
  go_wp2_with (first | (go_at_call 10;refine (lU (cv.mk x0 x1 x2 x3 x4 x5 x6 x7 x8 x9 x10 x11 x12) S _ _ (HT.out.on (cE.trans hbw bl)) (Dat.cC.bel (cE.trans hbw bl) HV.out)).mono ?_;rintro e w2 ⟨rfl,hb2⟩;rw[Yj.out];have mn:cE w1 w2:=cE.trans bl hb2;have Yk:cE w w2:=cE.trans hbw mn;obtain⟨Cc,Cd,uX,uY,sx,qV,qW,qX,qY,qZ,q9,ra,nh,ni,nj⟩:=HA.out.on mn;obtain⟨Ce,Cf,uZ,va,vb,vc,vd,ve⟩:=HB.out.on mn;obtain⟨Cg,Ch,vg,vm,vo,vr,vw,vx⟩:=HD.out.on mn;obtain⟨fB,Ci,vy,vz,vA,vB,vC,vD,vE,vF,vG,vH,qN,qO,qP⟩:=HC.out.on mn;clear hb2) | (go_at_call 26;refine (jY ⟨rk,rn,ri,rt,rl,rh⟩ _).mono ?_;rintro e w3 ⟨rfl,hb3⟩;rw[TK.out];have oJ:cE w1 w3:=cE.trans (cE.trans mn bl) hb3;have kw3:cE w w3:=cE.trans hbw oJ;obtain⟨Gr,Gs,yR,yS,yT,uQ,uR,uS,tj,tk,tn,tp,o7,o9,pc⟩:=HA.out.on oJ;obtain⟨Gt,Gu,yU,yV,yW,yX,yY,yZ⟩:=HB.out.on oJ;obtain⟨Gv,Gw,za,zb,zc,zd,ze,zf⟩:=HD.out.on oJ;obtain⟨fL,Gx,zg,zh,zi,zj,zk,zl,zm,zn,zo,zp,tF,tG,tH⟩:=HC.out.on oJ;clear hb3) | (go_at_call 27;refine (eB (cv.mk x0 x1 x2 x3 x4 x5 x6 x7 x8 x9 x10 x11 x12) ⟨rk,rn,ri,rt,rl,rh⟩ S _ _ (cG.bel (cE.trans oJ bl) jF.out) HR.out).mono ?_;rintro e w4 ⟨rfl,hb4⟩;rw[HBI.out];have sR:cE w1 w4:=cE.trans (cE.trans oJ bl) hb4;have kw4:cE w w4:=cE.trans hbw sR;obtain⟨LZ,Ma,CL,CM,CN,CO,CP,CQ,yz,xn,xo,xp,rM,rN,rO⟩:=HA.out.on sR;obtain⟨Mb,Mc,CR,CS,CT,CU,CV,CW⟩:=HB.out.on sR;obtain⟨Md,Mf,CX,CY,CZ,C0,C2,C3⟩:=HD.out.on sR;obtain⟨Mg,Mh,C4,C5,C6,C7,C8,C9,Da,Db,Dc,Dd,yr,yt,yu⟩:=HC.out.on sR;clear hb4) | (go_at_call 28;refine (oF (cv.mk x0 x1 x2 x3 x4 x5 x6 x7 x8 x9 x10 x11 x12) ⟨vk,vn,vi,vt,vl,vh⟩ S _ _ (cG.bel (cE.trans sR bl) jF.out) HX.out).mono ?_;rintro e w5 ⟨rfl,hb5⟩;rw[HBD.out];have JL:cE w1 w5:=cE.trans (cE.trans sR bl) hb5;have kw5:cE w w5:=cE.trans hbw JL;obtain⟨afz,afA,Yl,Ym,Yn,Yo,Yp,Yq,Yr,IW,EM,EN,Ae,Af,Ag⟩:=HA.out.on JL;obtain⟨afB,afC,Ys,Yt,Yu,Yv,Yw,Yx⟩:=HB.out.on JL;obtain⟨afD,afE,Yy,Yz,YA,YB,YC,YD⟩:=HD.out.on JL;obtain⟨afF,afG,YE,YF,YG,YH,YI,YJ,YK,YL,YM,YN,RY,RZ,R9⟩:=HC.out.on JL;clear hb5))
  all_goals exact bodyPost_ret (v:=.tuple #[.agg #[.slice none 0 0,.slice none 0 0,.slice none 0 0,.slice none 0 0,.string ByteArray.empty,.int .i64 0,.slice none 0 0,.slice none 0 0,.slice none 0 0,.bool false,.int .i64 0,.int .i64 0,.int .i64 0],.int .i64 111]) bp rfl (oC mz.out HT0.out bl)
 have hyes:yo (cv.mk x0 x1 x2 x3 x4 x5 x6 x7 x8 x9 x10 x11 x12) ⟨rk,rn,ri,rt,rl,rh⟩ ⟨vk,vn,vi,vt,vl,vh⟩=true:=by rw[HOK.out];rfl
 have TL:=hide hyes
 clear hyes
 go_upto_region 4 with (first | (go_at_call 10;refine (lU (cv.mk x0 x1 x2 x3 x4 x5 x6 x7 x8 x9 x10 x11 x12) S _ _ (HT.out.on (cE.trans hbw bl)) (Dat.cC.bel (cE.trans hbw bl) HV.out)).mono ?_;rintro e w2 ⟨rfl,hb2⟩;rw[Yj.out];have mn:cE w1 w2:=cE.trans bl hb2;have Yk:cE w w2:=cE.trans hbw mn;obtain⟨Cc,Cd,uX,uY,sx,qV,qW,qX,qY,qZ,q9,ra,nh,ni,nj⟩:=HA.out.on mn;obtain⟨Ce,Cf,uZ,va,vb,vc,vd,ve⟩:=HB.out.on mn;obtain⟨Cg,Ch,vg,vm,vo,vr,vw,vx⟩:=HD.out.on mn;obtain⟨fB,Ci,vy,vz,vA,vB,vC,vD,vE,vF,vG,vH,qN,qO,qP⟩:=HC.out.on mn;clear hb2) | (go_at_call 26;refine (jY ⟨rk,rn,ri,rt,rl,rh⟩ _).mono ?_;rintro e w3 ⟨rfl,hb3⟩;rw[TK.out];have oJ:cE w1 w3:=cE.trans (cE.trans mn bl) hb3;have kw3:cE w w3:=cE.trans hbw oJ;obtain⟨Gr,Gs,yR,yS,yT,uQ,uR,uS,tj,tk,tn,tp,o7,o9,pc⟩:=HA.out.on oJ;obtain⟨Gt,Gu,yU,yV,yW,yX,yY,yZ⟩:=HB.out.on oJ;obtain⟨Gv,Gw,za,zb,zc,zd,ze,zf⟩:=HD.out.on oJ;obtain⟨fL,Gx,zg,zh,zi,zj,zk,zl,zm,zn,zo,zp,tF,tG,tH⟩:=HC.out.on oJ;clear hb3) | (go_at_call 27;refine (eB (cv.mk x0 x1 x2 x3 x4 x5 x6 x7 x8 x9 x10 x11 x12) ⟨rk,rn,ri,rt,rl,rh⟩ S _ _ (cG.bel (cE.trans oJ bl) jF.out) HR.out).mono ?_;rintro e w4 ⟨rfl,hb4⟩;rw[HBI.out];have sR:cE w1 w4:=cE.trans (cE.trans oJ bl) hb4;have kw4:cE w w4:=cE.trans hbw sR;obtain⟨LZ,Ma,CL,CM,CN,CO,CP,CQ,yz,xn,xo,xp,rM,rN,rO⟩:=HA.out.on sR;obtain⟨Mb,Mc,CR,CS,CT,CU,CV,CW⟩:=HB.out.on sR;obtain⟨Md,Mf,CX,CY,CZ,C0,C2,C3⟩:=HD.out.on sR;obtain⟨Mg,Mh,C4,C5,C6,C7,C8,C9,Da,Db,Dc,Dd,yr,yt,yu⟩:=HC.out.on sR;clear hb4) | (go_at_call 28;refine (oF (cv.mk x0 x1 x2 x3 x4 x5 x6 x7 x8 x9 x10 x11 x12) ⟨vk,vn,vi,vt,vl,vh⟩ S _ _ (cG.bel (cE.trans sR bl) jF.out) HX.out).mono ?_;rintro e w5 ⟨rfl,hb5⟩;rw[HBD.out];have JL:cE w1 w5:=cE.trans (cE.trans sR bl) hb5;have kw5:cE w w5:=cE.trans hbw JL;obtain⟨afz,afA,Yl,Ym,Yn,Yo,Yp,Yq,Yr,IW,EM,EN,Ae,Af,Ag⟩:=HA.out.on JL;obtain⟨afB,afC,Ys,Yt,Yu,Yv,Yw,Yx⟩:=HB.out.on JL;obtain⟨afD,afE,Yy,Yz,YA,YB,YC,YD⟩:=HD.out.on JL;obtain⟨afF,afG,YE,YF,YG,YH,YI,YJ,YK,YL,YM,YN,RY,RZ,R9⟩:=HC.out.on JL;clear hb5) | (go_at_call 29;refine (BD x0 x1 x2 x3 x4 x5 x6 x7 x8 x9 x10 x11 x12 S _ _ (Dat.cC.bel (cE.trans hbw (cE.trans JL bl)) HV.out) HWT.out).mono ?_;rintro e w6 ⟨v0,v1,v2,v3,v6,v7,v8,L0,L1,L2,L3,L6,L7,L8,rfl,hE,hb6⟩;have kk6:cE w1 w6:=cE.trans JL (cE.trans bl hb6);obtain⟨LF,TM,hNF,hLF⟩:=Ew (x9:=x9) hE HG.out.1 HG.out.2.1 HG.out.2.2.1 HG.out.2.2.2.1 HG.out.2.2.2.2;have hLT:=TM.lt;obtain⟨B0,d0,-,B1,d1,-,B2,d2,-,B3,d3,-,B6,d6,-,B7,d7,-,B8,d8,-,-,hvs,-⟩:=cv.gV TM;simp only[List.cons.injEq,and_true,true_and]at hvs;obtain⟨rfl,rfl,rfl,rfl,rfl,rfl,rfl⟩:=hvs;have HOF:=hide TM;have HNF:=hide hNF;have HLF:=hide (show ∀b,b∈LF->w1.heap.size<=b from fun b hb=>al (cE.size (show cE w1 _ from cE.trans JL bl)) (hLF b hb));have WY:=hide hLT;have Sj:=kk6.size;have HCP:=hide hb6.size;clear hE hb6 TM hNF hLF hLT))
 refine dO fun wr hwr=>?_
 have kr:cE w1 wr:=by rw[<-hwr];exact cE.trans kk6 bl
 have RS:=cE.trans hbw kr
 have hrr:cE w6 wr:=by rw[<-hwr];exact bl
 have SR:SB wr w6.heap.size (.slice B0 x0.length d0) (.slice B1 x1.length d1) (.slice B2 x2.length d2) (.slice B3 x3.length d3) (.string x4) (.int .i64 x5) (.slice B6 x6.length d6) (.slice B7 x7.length d7) (.slice B8 x8.length d8) (.bool x9) (.int .i64 x10) (.int .i64 x11) (.int .i64 x12):=by rw[<-hwr];exact SB.new _ _
 have Ng:=hide (HB.out.on kr)
 have HRD:=hide (HD.out.on kr)
 have DV:=hide (HC.out.on kr)
 have HW:=hide (show WO w1.heap.size wr w6.heap.size (cv.mk x0 x1 x2 x3 x4 x5 x6 x7 x8 x9 x10 x11 x12) [.slice B0 x0.length d0,.slice B1 x1.length d1,.slice B2 x2.length d2,.slice B3 x3.length d3,.string x4,.int .i64 x5,.slice B6 x6.length d6,.slice B7 x7.length d7,.slice B8 x8.length d8,.bool x9,.int .i64 x10,.int .i64 x11,.int .i64 x12] LF from⟨SR.1,SR.2.1,fun j hj=>ac9 SR j hj,HOF.out.bel hrr,HNF.out,fun b hb=>⟨HLF.out b hb,fun e=>by have:=WY.out b hb;omega⟩⟩)
 have Iv:=hide (show w1.heap.size<=w6.heap.size from Sj)
 have hq9:w6.heap.size<wr.heap.size:=SR.1
 clear SR hwr hrr WY HLF HOF HNF HCP kk6
 clear hla hfa aap aaq aar aas aat aau aav aaw aax aay Rz RA RB
 clear hlc hfc Ij Ik Il Im Io Ip Iq Ir Is Iu Bn Bo Bp
 clear vlb vfb RD RE RF RG RH RI
 clear vld vfd RL RM RN RO RP RQ
 clear Cc Cd uX uY sx qV qW qX qY qZ q9 ra nh ni nj
 clear fB Ci vy vz vA vB vC vD vE vF vG vH qN qO qP
 clear Ce Cf uZ va vb vc vd ve
 clear Cg Ch vg vm vo vr vw vx
 clear Gr Gs yR yS yT uQ uR uS tj tk tn tp o7 o9 pc
 clear fL Gx zg zh zi zj zk zl zm zn zo zp tF tG tH
 clear Gt Gu yU yV yW yX yY yZ
 clear Gv Gw za zb zc zd ze zf
 clear LZ Ma CL CM CN CO CP CQ yz xn xo xp rM rN rO
 clear Mg Mh C4 C5 C6 C7 C8 C9 Da Db Dc Dd yr yt yu
 clear Mb Mc CR CS CT CU CV CW
 clear Md Mf CX CY CZ C0 C2 C3
 clear afz afA Yl Ym Yn Yo Yp Yq Yr IW EM EN Ae Af Ag
 clear afF afG YE YF YG YH YI YJ YK YL YM YN RY RZ R9
 clear afB afC Ys Yt Yu Yv Yw Yx
 clear afD afE Yy Yz YA YB YC YD
 generalize w6.heap.size=q at HW hq9 Iv |-
 obtain⟨vlb,vfb,RD,RE,RF,RG,RH,RI⟩:=Ng.out
 obtain⟨vld,vfd,RL,RM,RN,RO,RP,RQ⟩:=HRD.out
 have hrk:=TK.out
 unfold isRef at hrk
 simp only[Bool.and_eq_true,decide_eq_true_eq]at hrk
 obtain⟨S1,hS1⟩:∃x,(mi (cv.mk x0 x1 x2 x3 x4 x5 x6 x7 x8 x9 x10 x11 x12) ⟨rk,rn,ri,rt,rl,rh⟩ ⟨vk,vn,vi,vt,vl,vh⟩).1=x:=⟨_,rfl⟩
 obtain⟨C1,hC1⟩:∃x,(mi (cv.mk x0 x1 x2 x3 x4 x5 x6 x7 x8 x9 x10 x11 x12) ⟨rk,rn,ri,rt,rl,rh⟩ ⟨vk,vn,vi,vt,vl,vh⟩).2=x:=⟨_,rfl⟩
 have Oy:=hide hS1
 have Mo:=hide hC1
 clear hS1 hC1
 obtain⟨y0,y1,y2,y3,y4,y5,y6,y7,y8,y9,sB,sC,sM⟩:=S1
 go_upto_region 5 with (go_at_call 30;refine (GU (cv.mk x0 x1 x2 x3 x4 x5 x6 x7 x8 x9 x10 x11 x12) ⟨rk,rn,ri,rt,rl,rh⟩ Yj.out HBI.out hrk ⟨vk,vn,vi,vt,vl,vh⟩ w1.heap.size q wr _ _ HW.out kr.size Iv.out HR.out HX.out (HP.out.on RS)).mono ?_;rintro e w7 ⟨rfl,⟨us7,L7,hW7⟩,hK7⟩;rw[Mo.out];rw[Oy.out]at hW7;have RT:=hide hW7;have HK7:=hide hK7;clear hW7 hK7)
 obtain⟨E0,f0,E1,f1,E2,f2,E3,f3,E6,f6,E7,f7,E8,f8,rfl,hsb⟩:=RT.out.sb
 have HSB:=hide hsb
 clear hsb
 have aaC:bc<w1.heap.size:=by have:=HBC.out;omega
 have RU:=hide (DV.out.block HK7.out.size (HK7.out.block bc aaC))
 have aaD:cE w w7:=HK7.out.Ap RS hbw.size
 have ai3:bc≠q:=by have:=Iv.out;omega
 clear DV
 obtain⟨hls,hfs,aaE,aaF,aaG,aaH,aaI,aaJ,aaK,aaL,aaM,aaN,RV,RW,RX⟩:=HSB.out
 obtain⟨hlc,hfc,Ij,Ik,Il,Im,Io,Ip,Iq,Ir,Is,Iu,Bn,Bo,Bp⟩:=RU.out
 by_cases h0:0<C1
 case pos =>
  have d0:decide (0<C1)=true:=ar h0
  have hc0:BC (cv.mk x0 x1 x2 x3 x4 x5 x6 x7 x8 x9 x10 x11 x12) ⟨rk,rn,ri,rt,rl,rh⟩ ⟨vk,vn,vi,vt,vl,vh⟩=C1:=bK
  have ht0:xY (cv.mk x0 x1 x2 x3 x4 x5 x6 x7 x8 x9 x10 x11 x12) ⟨rk,rn,ri,rt,rl,rh⟩ ⟨vk,vn,vi,vt,vl,vh⟩=qR:=by unfold xY;rw[if_neg (fun h=>by have h2:=h.2;rw[Mo.out]at h2;omega)]
  have mz:=hide hc0
  have HT0:=hide ht0
  clear hc0 ht0
  go_wp2_with (fail)
  all_goals exact bodyPost_ret (v:=.tuple #[.agg #[.slice none 0 0,.slice none 0 0,.slice none 0 0,.slice none 0 0,.string ByteArray.empty,.int .i64 0,.slice none 0 0,.slice none 0 0,.slice none 0 0,.bool false,.int .i64 0,.int .i64 0,.int .i64 0],.int .i64 C1]) bp rfl (oC mz.out HT0.out bl)
 have d0:decide (0<C1)=false:=aq h0
 go_wp2_with (fail)
 refine Ex (Q:=bodyPost _ _ _) fun w8 hw8=>?_
 obtain⟨S8,o8⟩:=WL RU.out hw8
 clear hw8
 clear hls hfs aaE aaF aaG aaH aaI aaJ aaK aaL aaM aaN RV RW RX
 clear hlc hfc Ij Ik Il Im Io Ip Iq Ir Is Iu Bn Bo Bp
 obtain⟨-,-,s0,s1,s2,s3,s4,s5,s6,s7,s8,s9,s10,s11,s12⟩:=S8
 have Ol:=hide (RT.out.own.gL o8 (fun b hb e=>by have:=(RT.out.low b hb).1;omega))
 have aaO:cE w w8:=o8.Ap aaD (fun x hx e=>by have:=HBC.out;omega)
 have hc0:BC (cv.mk x0 x1 x2 x3 x4 x5 x6 x7 x8 x9 x10 x11 x12) ⟨rk,rn,ri,rt,rl,rh⟩ ⟨vk,vn,vi,vt,vl,vh⟩=C1:=bK
 have ht0:xY (cv.mk x0 x1 x2 x3 x4 x5 x6 x7 x8 x9 x10 x11 x12) ⟨rk,rn,ri,rt,rl,rh⟩ ⟨vk,vn,vi,vt,vl,vh⟩=.mk y0 y1 y2 y3 y4 y5 y6 y7 y8 y9 sB sC sM:=by unfold xY;rw[if_pos ⟨TL.out,by rw[Mo.out];omega⟩];exact Oy.out
 have mz:=hide hc0
 have HT0:=hide ht0
 clear hc0 ht0
 exact bodyPost_ret (v:=.tuple #[.agg #[.slice E0 y0.length f0,.slice E1 y1.length f1,.slice E2 y2.length f2,.slice E3 y3.length f3,.string y4,.int .i64 y5,.slice E6 y6.length f6,.slice E7 y7.length f7,.slice E8 y8.length f8,.bool y9,.int .i64 sB,.int .i64 sC,.int .i64 sM],.int .i64 C1]) (by simp[results,Tryz.results7,go_sem,s0,s1,s2,s3,s4,s5,s6,s7,s8,s9,s10,s11,s12];try rfl) rfl ⟨_,L7,by rw[mz.out],by rw[HT0.out];exact Ol.out,RT.out.nd,fun b hb=>by have:=(RT.out.low b hb).1;have:=hbw.size;omega,aaO⟩
end Go.Proofs.YtjngkknbpfgdcaaGreatDoor
