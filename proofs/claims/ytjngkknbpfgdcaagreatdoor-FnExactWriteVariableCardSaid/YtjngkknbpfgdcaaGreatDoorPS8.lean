import Derived.Test.YtjngkknbpfgdcaaGreatDoorPr
import Derived.Test.YtjngkknbpfgdcaaGreatDoorPS7h
import Derived.Test.YtjngkknbpfgdcaaGreatDoorPShelf
set_option linter.unusedVariables false
set_option linter.unusedSimpArgs false
set_option maxRecDepth 100000
set_option maxHeartbeats 8000000
namespace Go.Proofs.YtjngkknbpfgdcaaGreatDoor
open Go.RowKit
--%quiet
theorem uT (s:cv):ahC 44 s:=by
 intro S w vs hv
 obtain⟨x0,x1,x2,x3,x4,x5,x6,x7,x8,x9,x10,x11,x12⟩:=s
 have HV:=hide hv
 obtain⟨A0,c0,A1,c1,A2,c2,A3,c3,A6,c6,A7,c7,A8,c8,rfl,g0,g1,g2,g3,g4,g5,g6,g7,g8,-,g10,g11,g12⟩:=cv.vals hv
 have HR0:=hide g0
 have gg:=g0.1
 have hcm0:=g0.2.1
 simp only[aj]at gg
 unfold maxLen at hcm0
 have HR1:=hide g1
 have ga:=g1.1
 have hcm1:=g1.2.1
 simp only[aj]at ga
 unfold maxLen at hcm1
 have HR2:=hide g2
 have fB:=g2.1
 have hcm2:=g2.2.1
 simp only[aj]at fB
 unfold maxLen at hcm2
 have HR3:=hide g3
 have fL:=g3.1
 have fV:=g3.2.1
 simp only[aj]at fL
 unfold maxLen at fV
 have IK:=hide g6
 have fW:=g6.1
 have fZ:=g6.2.1
 simp only[aj]at fW
 unfold maxLen at fZ
 have HR7:=hide g7
 have gh:=g7.1
 have gi:=g7.2.1
 simp only[aj]at gh
 unfold maxLen at gi
 have SE:=hide g8
 have gb:=g8.1
 have gd:=g8.2.1
 simp only[aj]at gb
 unfold maxLen at gd
 unfold maxLen at g4
 clear hv g0 g1 g2 g3 g6 g7 g8
 have Oy:=hide (show cG (w.alloc (.cells #[.slice A0 x0.length c0,.slice A1 x1.length c1,.slice A2 x2.length c2,.slice A3 x3.length c3,.string x4,.int .i64 x5,.slice A6 x6.length c6,.slice A7 x7.length c7,.slice A8 x8.length c8,.bool x9,.int .i64 x10,.int .i64 x11,.int .i64 x12] 30)) S w.heap.size (cv.mk x0 x1 x2 x3 x4 x5 x6 x7 x8 x9 x10 x11 x12)from cG.EX HV.out rfl)
 by_cases hc0:x0.length<=12
 case neg =>
  have RR:=hide (gF (s:=(cv.mk x0 x1 x2 x3 x4 x5 x6 x7 x8 x9 x10 x11 x12)) (by rw[gX];rw[aq hc0];simp))
  have d0:decide ((12:Int)<(x0.length:Int))=true:=aD
  exact DU
 case pos =>
 have d0:decide ((12:Int)<(x0.length:Int))=false:=aD
 by_cases hc1:x1.length<=8
 case neg =>
  have RR:=hide (gF (s:=(cv.mk x0 x1 x2 x3 x4 x5 x6 x7 x8 x9 x10 x11 x12)) (by rw[gX];rw[aq hc1];simp))
  have d1:decide ((8:Int)<(x1.length:Int))=true:=aD
  exact DU
 case pos =>
 have d1:decide ((8:Int)<(x1.length:Int))=false:=aD
 by_cases hc2:x3.length<=12
 case neg =>
  have RR:=hide (gF (s:=(cv.mk x0 x1 x2 x3 x4 x5 x6 x7 x8 x9 x10 x11 x12)) (by rw[gX];rw[aq hc2];simp))
  have d2:decide ((12:Int)<(x3.length:Int))=true:=aD
  exact DU
 case pos =>
 have d2:decide ((12:Int)<(x3.length:Int))=false:=aD
 by_cases hc3:x4.size<=120
 case neg =>
  have RR:=hide (gF (s:=(cv.mk x0 x1 x2 x3 x4 x5 x6 x7 x8 x9 x10 x11 x12)) (by rw[gX];rw[aq hc3];simp))
  have d3:decide ((120:Int)<(x4.size:Int))=true:=aD
  exact DU
 case pos =>
 have d3:decide ((120:Int)<(x4.size:Int))=false:=aD
 by_cases hc4:1<=x5/\x5<=(x4.size:Int)+1
 case neg =>
  have RR:=hide (gF (s:=(cv.mk x0 x1 x2 x3 x4 x5 x6 x7 x8 x9 x10 x11 x12)) (by rw[gX];rw[aq hc4];simp))
  have d4:(decide (1<=x5)&&decide (x5<=(x4.size:Int)+1))=false:=aD
  exact DU
 case pos =>
 have d4:decide (1<=x5)=true:=aD
 have d4b:decide (x5<=(x4.size:Int)+1)=true:=aD
 by_cases hc5:x8.length<=40
 case neg =>
  have RR:=hide (gF (s:=(cv.mk x0 x1 x2 x3 x4 x5 x6 x7 x8 x9 x10 x11 x12)) (by rw[gX];rw[aq hc5];simp))
  have d5:decide ((40:Int)<(x8.length:Int))=true:=aD
  exact DU
 case pos =>
 have d5:decide ((40:Int)<(x8.length:Int))=false:=aD
 by_cases hc6:0<=x12
 case neg =>
  have RR:=hide (gF (s:=(cv.mk x0 x1 x2 x3 x4 x5 x6 x7 x8 x9 x10 x11 x12)) (by rw[gX];rw[aq hc6];simp))
  have d6:decide (x12<0)=true:=aD
  exact DU
 case pos =>
 have d6:decide (x12<0)=false:=aD
 by_cases hc7:0<=x11/\x11<=4000
 case neg =>
  have RR:=hide (gF (s:=(cv.mk x0 x1 x2 x3 x4 x5 x6 x7 x8 x9 x10 x11 x12)) (by rw[gX];rw[aq hc7];simp))
  have d7:(decide (0<=x11)&&decide (x11<=4000))=false:=aD
  exact DU
 case pos =>
 have d7:decide (0<=x11)=true:=aD
 have d7b:decide (x11<=4000)=true:=aD
 by_cases hc8:0<=x10/\x10<=x11
 case neg =>
  have RR:=hide (gF (s:=(cv.mk x0 x1 x2 x3 x4 x5 x6 x7 x8 x9 x10 x11 x12)) (by rw[gX];rw[aq hc8];simp))
  have d8:(decide (0<=x10)&&decide (x10<=x11))=false:=aD
  exact DU
 case pos =>
 have d8:decide (0<=x10)=true:=aD
 have d8b:decide (x10<=x11)=true:=aD
 have hnl:decide ((x0.length:Int)<=12)=true:=aD
 by_cases hnm:x0.all nameB=true
 case neg =>
  have ZR:=Bool.eq_false_iff.2 hnm
  have RR:=hide (gF (s:=(cv.mk x0 x1 x2 x3 x4 x5 x6 x7 x8 x9 x10 x11 x12)) (by rw[gX,ZR];simp))
  have HN:=hide (show (x0.all nameB&&decide ((x0.length:Int)<=12))=false by rw[ZR];rfl)
  clear hnm ZR hnl
  go_enter Tryz.func44,Tryz.ntmps44
  have fg:=True.intro
  repeat (any_goals ((first | clear fg | go_quiet (fail));(try go_wp2_with (first | (go_at_call 101;refine (oL _ _ _ _).mono ?_;rintro e w9 ⟨rfl,rfl⟩) | (go_at_call 102;refine (qd x0 12 S _ _ _ (Row.bel bl HR0.out)).mono ?_;rintro e w8 ⟨rfl,hb8⟩;rw[HN.out];(have Zu:=hb8.sz;obtain⟨Jr,Js,Jt,Ju⟩:=hb8.lay (w.heap.size)))))))
  all_goals
   go_returns
   exact⟨by rw[RR.out];first | done | rfl,bl⟩
 case pos =>
 have HN:=hide (show (x0.all nameB&&decide ((x0.length:Int)<=12))=true by rw[hnm,hnl];rfl)
 have HH:=hide (show headB (cv.mk x0 x1 x2 x3 x4 x5 x6 x7 x8 x9 x10 x11 x12)=true by rw[gX,hnm];simp;omega)
 clear hnm hnl
 go_enter Tryz.func44,Tryz.ntmps44
 have fg:=True.intro
 repeat (any_goals ((first | clear fg | go_quiet (fail));(try go_wp2_with (first | (go_at_call 101;refine (oL _ _ _ _).mono ?_;rintro e w9 ⟨rfl,rfl⟩) | (go_at_call 102;refine (qd x0 12 S _ _ _ (Row.bel bl HR0.out)).mono ?_;rintro e w8 ⟨rfl,hb8⟩;rw[HN.out];(have Zu:=hb8.sz;obtain⟨Jr,Js,Jt,Ju⟩:=hb8.lay (w.heap.size)))))))
 go_loopw [3] (fun v wr=>∃m:Nat,v=.int .i64 m/\m<=x1.length/\Hid (∀j (hj:j<x1.length),j<m->mY x1[j]=true)/\cE w wr/\Hid (cG wr S w.heap.size (cv.mk x0 x1 x2 x3 x4 x5 x6 x7 x8 x9 x10 x11 x12))) (fun v _=>x1.length - (intOf v).toNat)
 case atStart=>exact⟨0,rfl,by omega,fun j _ hj=>by omega,bl,hide (cG.bel bl Oy.out)⟩
 case round =>
  obtain⟨m,rfl,m1,hm,hbw,hsw⟩:=hrel
  have hqz:=hsw.out.1
  obtain⟨A0,c0,A1,c1,A2,c2,A3,c3,A6,c6,A7,c7,A8,c8,Hq,e0,e1,e2,e3,e4,e5,e6,e7,e8,e9,e10,e11,e12,y0,y1,y2,y3,y4,y5,y6,y7,y8,sB,sC,sM⟩:=cG.cells hsw.out
  have HR1:=hide y1
  have ga:=y1.1
  have hcm1:=y1.2.1
  simp only[aj]at ga
  unfold maxLen at hcm1
  clear Hq y0 y1 y2 y3 y4 y5 y6 y7 y8 sB sC sM
  have hbr:cE wr wr:=cE.refl _
  have gM:¬w.heap.size=wr.heap.size:=aB
  by_cases h1:m<x1.length
  ·
   have hd:decide ((m:Int)<(x1.length:Int))=true:=aX
   (obtain⟨b1,o1,cH,cM,cN,Ad,xW,hA1,hS1,hl1,hx1,hv1,eY,eG,fa,db,de,dq⟩:=cA.at HR1.out m h1;subst hA1;have jh:=hide (Dat.cC.bel hbr hv1);have hh1:=hbr.box b1 hl1;have hw1:=ak hl1 (cE.size hbr);replace db:=(hh1 _).trans db;replace de:=(hh1 _).trans de;replace dq:=(hh1 _).trans dq;have gv:=hide hx1;have kX:=hide eG;clear hh1 hv1 hx1 hS1 eG)
   have hne1:¬b1=wr.heap.size:=aB
   have DV:=hide (show mY x1[m]=(nameB cH&&cM.all nameB&&decide (cM.length<=6) && !pR cM&&decide (0<=cN)) by rw[gv.out];rfl)
   have hf:=kX.out.1
   have hfm:=kX.out.2.1
   simp only[aj]at hf
   unfold maxLen at hfm eY
   cases hn:nameB cH
   case false =>
    have HR0:=hide (show mY x1[m]=false by rw[DV.out];simp[hn])
    have Tj:=hide hn
    clear hn
    exact PM
   case true =>
   have Tj:=hide hn
   clear hn
   by_cases hlen:cM.length<=6
   case neg =>
    have HR0:=hide (show mY x1[m]=false by rw[DV.out];simp[hlen])
    have PN:decide ((6:Int)<(cM.length:Int))=true:=aD
    have dl:decide ((cM.length:Int)<=6)=false:=aD
    exact PM
   case pos =>
   have PN:decide ((6:Int)<(cM.length:Int))=false:=aD
   have dl:decide ((cM.length:Int)<=6)=true:=aD
   cases ha:cM.all nameB
   case false =>
    have HR0:=hide (show mY x1[m]=false by rw[DV.out];simp[ha])
    have Tk:=hide ha
    clear ha
    exact PM
   case true =>
   have Tk:=hide ha
   clear ha
   cases ht:pR cM
   case true =>
    have HR0:=hide (show mY x1[m]=false by rw[DV.out];simp[ht])
    have Tl:=hide ht
    clear ht
    exact PM
   case false =>
   have Tl:=hide ht
   clear ht
   by_cases hl:0<=cN
   case neg =>
    have HR0:=hide (show mY x1[m]=false by rw[DV.out];simp[hl])
    have dhl:decide (cN<0)=true:=aD
    exact PM
   case pos =>
   have dhl:decide (cN<0)=false:=aD
   have HR0:=hide (show mY x1[m]=true by rw[DV.out,Tj.out,Tk.out,Tl.out,ar hlen,ar hl];first | done | rfl)
   have fg:=True.intro
   repeat (any_goals ((first | clear fg | go_quiet (fail));(try go_wp2_with (first | (go_at_call 103;refine (mQ cH _).mono ?_;rintro e wa ⟨rfl,hba⟩;(try rw[Tj.out]);(have hza:=hba.sz;obtain⟨PO,PQ,PS,PT⟩:=hba.lay (w.heap.size);obtain⟨PU,PV,PW,PX⟩:=hba.lay (wr.heap.size);obtain⟨adU,adV,adW,adX⟩:=hba.lay (b1))) | (go_at_call 102;refine (qd cM 6 S _ _ _ (Row.bel bl kX.out)).mono ?_;rintro e wb ⟨rfl,hbb⟩;(try rw[Tk.out]);(try rw[dl]);(try simp only[Bool.and_true,Bool.true_and,Bool.and_false,Bool.false_and]);(have hzb:=hbb.sz;obtain⟨PY,P0,P2,P4⟩:=hbb.lay (w.heap.size);obtain⟨P5,P6,P7,P8⟩:=hbb.lay (wr.heap.size);obtain⟨adY,adZ,ad1,ad2⟩:=hbb.lay (b1))) | (go_at_call 104;refine (yH cM S _ _ _ (Row.bel bl kX.out)).mono ?_;rintro e wc ⟨rfl,hbc⟩;(try rw[Tl.out]);(have hzc:=hbc.sz;obtain⟨P9,Qa,Qb,Qc⟩:=hbc.lay (w.heap.size);obtain⟨Qd,Qe,Qf,Qg⟩:=hbc.lay (wr.heap.size);obtain⟨ad3,ad4,ad5,ad6⟩:=hbc.lay (b1)))))))
   go_roundw
   case rel=>exact⟨m+1,by go_num,by omega,fun j hj hjm=>by
    by_cases e:j=m
    ·
     subst e;exact HR0.out
    ·
     exact hm.out j hj aB,bl,hide (cG.bel bl hsw.out)⟩
   case measure=>simp[intOf];omega
  have hd:decide ((m:Int)<(x1.length:Int))=false:=aX
  have ZS:=hide (show ∀j (hj:j<x1.length),j<x1.length->mY x1[j]=true from fun j hj _=>hm.out j hj aB)
  clear hm
  go_wp2_with (fail)
  repeat (any_goals (go_quiet (fail);(try go_wp2_with (fail))))
  go_loopw [5] (fun v wr=>∃m:Nat,v=.int .i64 m/\m<=x6.length/\Hid (∀j (hj:j<x6.length),j<m->x6[j].size<=120)/\cE w wr/\Hid (cG wr S w.heap.size (cv.mk x0 x1 x2 x3 x4 x5 x6 x7 x8 x9 x10 x11 x12))) (fun v _=>x6.length - (intOf v).toNat)
  case atStart=>exact⟨0,rfl,by omega,fun j _ hj=>by omega,bl,hide (cG.bel bl hsw.out)⟩
  case round =>
   obtain⟨m,rfl,m1,hm,hbw,hsw⟩:=hrel
   have hqz:=hsw.out.1
   obtain⟨A0,c0,A1,c1,A2,c2,A3,c3,A6,c6,A7,c7,A8,c8,Hq,e0,e1,e2,e3,e4,e5,e6,e7,e8,e9,e10,e11,e12,y0,y1,y2,y3,y4,y5,y6,y7,y8,sB,sC,sM⟩:=cG.cells hsw.out
   have IK:=hide y6
   have fW:=y6.1
   have fZ:=y6.2.1
   simp only[aj]at fW
   unfold maxLen at fZ
   clear Hq y0 y1 y2 y3 y4 y5 y6 y7 y8 sB sC sM
   have hbr:cE wr wr:=cE.refl _
   have gM:¬w.heap.size=wr.heap.size:=aB
   by_cases h1:m<x6.length
   ·
    have hd:decide ((m:Int)<(x6.length:Int))=true:=aX
    obtain⟨b1,o1,hA1,hS1,hl1,hz1,c1x⟩:=qU IK.out m h1
    subst hA1
    replace c1x:=(hbr.box b1 hl1 _).trans c1x
    unfold maxLen at hz1
    by_cases h2:x6[m].size<=120
    ·
     have hd2:decide ((120:Int)<(x6[m].size:Int))=false:=aD
     go_wp2_with (fail)
     repeat (any_goals (go_quiet (fail);(try go_wp2_with (fail))))
     go_roundw
     case rel=>exact⟨m+1,by go_num,by omega,fun j hj hjm=>by
      by_cases e:j=m
      ·
       subst e;exact h2
      ·
       exact hm.out j hj aB,bl,hide (cG.bel bl hsw.out)⟩
     case measure=>simp[intOf];omega
    ·
     have hd2:decide ((120:Int)<(x6[m].size:Int))=true:=aD
     have RR:=hide (Jv (s:=(cv.mk x0 x1 x2 x3 x4 x5 x6 x7 x8 x9 x10 x11 x12)) m h1 (by show 120<x6[m].size;omega))
     exact ov
   have hd:decide ((m:Int)<(x6.length:Int))=false:=aX
   have Hr:=hide (show ∀j (hj:j<x6.length),j<x6.length->x6[j].size<=120 from fun j hj _=>hm.out j hj aB)
   clear hm
   go_wp2_with (fail)
   repeat (any_goals (go_quiet (fail);(try go_wp2_with (fail))))
   go_loopw [6] (fun v wr=>∃m:Nat,v=.int .i64 m/\m<=x8.length/\Hid (∀j (hj:j<x8.length),j<m->zz (cv.mk x0 x1 x2 x3 x4 x5 x6 x7 x8 x9 x10 x11 x12) x8[j]=true)/\cE w wr/\Hid (cG wr S w.heap.size (cv.mk x0 x1 x2 x3 x4 x5 x6 x7 x8 x9 x10 x11 x12))) (fun v _=>x8.length - (intOf v).toNat)
   case atStart=>exact⟨0,rfl,by omega,fun j _ hj=>by omega,bl,hide (cG.bel bl hsw.out)⟩
   case round =>
    obtain⟨m,rfl,m1,hm,hbw,hsw⟩:=hrel
    have hqz:=hsw.out.1
    obtain⟨A0,c0,A1,c1,A2,c2,A3,c3,A6,c6,A7,c7,A8,c8,Hq,e0,e1,e2,e3,e4,e5,e6,e7,e8,e9,e10,e11,e12,y0,y1,y2,y3,y4,y5,y6,y7,y8,sB,sC,sM⟩:=cG.cells hsw.out
    have HR2:=hide y2
    have fB:=y2.1
    have hcm2:=y2.2.1
    simp only[aj]at fB
    unfold maxLen at hcm2
    have SE:=hide y8
    have gb:=y8.1
    have gd:=y8.2.1
    simp only[aj]at gb
    unfold maxLen at gd
    clear Hq y0 y1 y2 y3 y4 y5 y6 y7 y8 sB sC sM
    have hbr:cE wr wr:=cE.refl _
    have gM:¬w.heap.size=wr.heap.size:=aB
    by_cases h1:m<x8.length
    ·
     have hd:decide ((m:Int)<(x8.length:Int))=true:=aX
     (obtain⟨b1,o1,cH,cM,hA1,hS1,hl1,hx1,hv1,eY,eG,db,de⟩:=cJ.at SE.out m h1;subst hA1;have jh:=hide (Dat.cC.bel hbr hv1);have hh1:=hbr.box b1 hl1;have hw1:=ak hl1 (cE.size hbr);replace db:=(hh1 _).trans db;replace de:=(hh1 _).trans de;have gv:=hide hx1;clear hh1 hv1 hx1 hS1)
     have hne1:¬b1=wr.heap.size:=aB
     have ZT:=hide (show zz (cv.mk x0 x1 x2 x3 x4 x5 x6 x7 x8 x9 x10 x11 x12) x8[m]=(decide (0<=cH/\cH<(x0.length:Int))&&decide (0<=cM/\cM<(x2.length:Int))&&(match x2[cM.toNat]? with | some o=>decide (o.kind=1) | none=>false)) by rw[gv.out];rfl)
     by_cases hr:0<=cH/\cH<(x0.length:Int)
     case neg =>
      have RR:=hide (tR (s:=(cv.mk x0 x1 x2 x3 x4 x5 x6 x7 x8 x9 x10 x11 x12)) m h1 (ZT.out.trans (by rw[aq hr];rfl)))
      have dr:(decide (0<=cH)&&decide (cH<=(x0.length:Int) - 1))=false:=aD
      clear hr
      exact Qh
     case pos =>
     have dr:decide (0<=cH)=true:=aD
     have dr2:decide (cH<=(x0.length:Int) - 1)=true:=aD
     by_cases hf:0<=cM/\cM<(x2.length:Int)
     case neg =>
      have RR:=hide (tR (s:=(cv.mk x0 x1 x2 x3 x4 x5 x6 x7 x8 x9 x10 x11 x12)) m h1 (ZT.out.trans (by rw[aq hf];simp)))
      have df:(decide (0<=cM)&&decide (cM<=(x2.length:Int) - 1))=false:=aD
      clear hf
      exact Qh
     case pos =>
     obtain⟨hf0,hf1⟩:=hf
     obtain⟨fr,rfl⟩:=Int.eq_ofNat_of_zero_le hf0
     have hfr:fr<x2.length:=aB
     have df:decide ((0:Int)<=(fr:Int))=true:=aK
     have df2:decide ((fr:Int)<=(x2.length:Int) - 1)=true:=aD
     (obtain⟨b2,o2,dG,dN,dQ,dV,dW,ad8,ad9,aea,aeb,hA2,hS2,hl2,hx2,hv2,kY,km,lh,gY,kn,fq,ft,fC,fF,fG⟩:=cz.at HR2.out fr hfr;subst hA2;have xN:=hide (Dat.cC.bel hbr hv2);have hh2:=hbr.box b2 hl2;have hw2:=ak hl2 (cE.size hbr);replace fq:=(hh2 _).trans fq;replace ft:=(hh2 _).trans ft;replace fC:=(hh2 _).trans fC;replace fF:=(hh2 _).trans fF;replace fG:=(hh2 _).trans fG;have oz:=hide hx2;have aec:=hide gY;have aed:=hide kn;clear hh2 hv2 hx2 hS2 gY kn)
     have hne2:¬b2=wr.heap.size:=aB
     have Qi:=hide (ZT.out.trans (show _=decide (dG=1) by rw[ar hr,ar (show 0<=(fr:Int)/\(fr:Int)<(x2.length:Int) by omega),show ((fr:Int)).toNat=fr from Int.toNat_natCast fr,List.getElem?_eq_getElem hfr,oz.out];rfl))
     by_cases hk:dG=1
     ·
      have fk:(dG != 1)=false:=aL
      have HNW:=hide (Qi.out.trans (ar hk))
      clear hk
      have fg:=True.intro
      repeat (any_goals ((first | clear fg | go_quiet (fail));(try go_wp2_with (go_at_call 101;refine (oL _ _ _ _).mono ?_;rintro e w9 ⟨rfl,rfl⟩))))
      exact XK
     ·
      have fk:(dG != 1)=true:=aL
      have RR:=hide (tR (s:=(cv.mk x0 x1 x2 x3 x4 x5 x6 x7 x8 x9 x10 x11 x12)) m h1 (Qi.out.trans (aq hk)))
      clear hk
      exact Qh
    have hd:decide ((m:Int)<(x8.length:Int))=false:=aX
    have Hs:=hide (show ∀j (hj:j<x8.length),j<x8.length->zz (cv.mk x0 x1 x2 x3 x4 x5 x6 x7 x8 x9 x10 x11 x12) x8[j]=true from fun j hj _=>hm.out j hj aB)
    clear hm
    go_wp2_with (fail)
    repeat (any_goals (go_quiet (fail);(try go_wp2_with (fail))))
    go_loopw [8] (fun v wr=>∃m:Nat,v=.int .i64 m/\m<=x2.length/\Hid ((∀j (hj:j<x2.length),j<m->dx (cv.mk x0 x1 x2 x3 x4 x5 x6 x7 x8 x9 x10 x11 x12) x2[j]=true/\∀k (hk:k<j),x2[j].gK=0\/(x2[k]' aB).gK≠x2[j].gK))/\cE w wr/\Hid (cG wr S w.heap.size (cv.mk x0 x1 x2 x3 x4 x5 x6 x7 x8 x9 x10 x11 x12))) (fun v _=>x2.length - (intOf v).toNat)
    case atStart=>exact⟨0,rfl,by omega,fun j _ hj=>by omega,bl,hide (cG.bel bl hsw.out)⟩
    case round =>
     obtain⟨m,rfl,m1,hm,hbw,hsw⟩:=hrel
     have hqz:=hsw.out.1
     obtain⟨A0,c0,A1,c1,A2,c2,A3,c3,A6,c6,A7,c7,A8,c8,Hq,e0,e1,e2,e3,e4,e5,e6,e7,e8,e9,e10,e11,e12,y0,y1,y2,y3,y4,y5,y6,y7,y8,sB,sC,sM⟩:=cG.cells hsw.out
     have HR2:=hide y2
     have fB:=y2.1
     have hcm2:=y2.2.1
     simp only[aj]at fB
     unfold maxLen at hcm2
     have HR3:=hide y3
     have fL:=y3.1
     have fV:=y3.2.1
     simp only[aj]at fL
     unfold maxLen at fV
     clear Hq y0 y1 y2 y3 y4 y5 y6 y7 y8 sB sC sM
     have hbr:cE wr wr:=cE.refl _
     have gM:¬w.heap.size=wr.heap.size:=aB
     by_cases h1:m<x2.length
     ·
      have hd:decide ((m:Int)<(x2.length:Int))=true:=aX
      (obtain⟨b1,o1,cH,cM,cN,cO,cP,mw,jr,jR,jI,hA1,hS1,hl1,hx1,hv1,eY,eG,fa,dY,er,db,de,dq,dy,dz⟩:=cz.at HR2.out m h1;subst hA1;have jh:=hide (Dat.cC.bel hbr hv1);have hh1:=hbr.box b1 hl1;have hw1:=ak hl1 (cE.size hbr);replace db:=(hh1 _).trans db;replace de:=(hh1 _).trans de;replace dq:=(hh1 _).trans dq;replace dy:=(hh1 _).trans dy;replace dz:=(hh1 _).trans dz;have gv:=hide hx1;have fJ:=hide dY;have jq:=hide er;clear hh1 hv1 hx1 hS1 dY er)
      have hne1:¬b1=wr.heap.size:=aB
      have hlk:=fJ.out.1
      have hlm:=fJ.out.2.1
      have ahE:=jq.out.1
      have ahF:=jq.out.2.1
      have Sn:=hsw
      cases ho:dx (cv.mk x0 x1 x2 x3 x4 x5 x6 x7 x8 x9 x10 x11 x12) x2[m]
      ·
       have HO:=hide ho
       have RR:=hide (DI (s:=(cv.mk x0 x1 x2 x3 x4 x5 x6 x7 x8 x9 x10 x11 x12)) m h1 ho)
       clear ho
       have fg:=True.intro
       repeat (any_goals ((first | clear fg | go_quiet (fail));(try go_wp2_with (go_at_call 105;refine (yG (cv.mk x0 x1 x2 x3 x4 x5 x6 x7 x8 x9 x10 x11 x12) x2[m] S S w.heap.size _ _ (cG.bel bl Sn.out) (Dat.cC.bel bl jh.out)).mono ?_;rintro e wo ⟨rfl,uE⟩;rw[HO.out];(have Sl:=uE.sz;obtain⟨FA,FB,FC,FD⟩:=uE.lay (w.heap.size);obtain⟨FE,FG,FH,FI⟩:=uE.lay (b1))))))
       all_goals
        go_returns
        exact⟨gG RR.out.symm,bl⟩
      ·
       have HO:=hide ho
       clear ho
       have fg:=True.intro
       repeat (any_goals ((first | clear fg | go_quiet (fail));(try go_wp2_with (go_at_call 105;refine (yG (cv.mk x0 x1 x2 x3 x4 x5 x6 x7 x8 x9 x10 x11 x12) x2[m] S S w.heap.size _ _ (cG.bel bl Sn.out) (Dat.cC.bel bl jh.out)).mono ?_;rintro e wo ⟨rfl,uE⟩;rw[HO.out];(have Sl:=uE.sz;obtain⟨FA,FB,FC,FD⟩:=uE.lay (w.heap.size);obtain⟨FE,FG,FH,FI⟩:=uE.lay (b1))))))
       have HSO:=hide (cG.bel (show cE wr wo from bl) hsw.out)
       have amI:cE w wo:=bl
       go_loopw [9] (fun v wr2=>∃k:Nat,v=.int .i64 k/\k<=m/\Hid (∀j (hj:j<k) (hjm:j<x2.length),cN=0\/x2[j].gK≠cN)/\cE w wr2/\Hid (cG wr2 S w.heap.size (cv.mk x0 x1 x2 x3 x4 x5 x6 x7 x8 x9 x10 x11 x12))) (fun v _=>m - (intOf v).toNat)
       case atStart=>exact⟨0,rfl,by omega,fun j hj _=>by omega,bl,HSO.out⟩
       case round =>
        obtain⟨k,rfl,k1,hk,hbw2,hsw⟩:=hrel
        have HX0:=gv
        have hqz:=hsw.out.1
        obtain⟨A0,c0,A1,c1,A2,c2,A3,c3,A6,c6,A7,c7,A8,c8,Hq,e0,e1,e2,e3,e4,e5,e6,e7,e8,e9,e10,e11,e12,y0,y1,y2,y3,y4,y5,y6,y7,y8,sB,sC,sM⟩:=cG.cells hsw.out
        have HR2:=hide y2
        have fB:=y2.1
        have hcm2:=y2.2.1
        simp only[aj]at fB
        unfold maxLen at hcm2
        clear Hq y0 y1 y2 y3 y4 y5 y6 y7 y8 sB sC sM
        have hbr:cE wr wr:=cE.refl _
        have gM:¬w.heap.size=wr.heap.size:=aB
        have hSX:=hide (show x2[m].gK=cN by rw[gv.out];rfl)
        by_cases h2:k<m
        ·
         have hd2:decide ((k:Int)<(m:Int))=true:=bu
         have h2':k<x2.length:=aB
         (obtain⟨b4,o4,jf,gA,jg,jm,jn,amJ,amK,amL,amM,hA4,hS4,hl4,hx4,hv4,adL,KY,adM,aee,aef,Fb,Fc,Fe,aeg,aeh⟩:=cz.at HR2.out m h1;subst hA4;have HV4:=hide (Dat.cC.bel hbr hv4);have hh4:=hbr.box b4 hl4;have hw4:=ak hl4 (cE.size hbr);replace Fb:=(hh4 _).trans Fb;replace Fc:=(hh4 _).trans Fc;replace Fe:=(hh4 _).trans Fe;replace aeg:=(hh4 _).trans aeg;replace aeh:=(hh4 _).trans aeh;have Xc:=hide hx4;have akv:=hide aee;have akw:=hide aef;clear hh4 hv4 hx4 hS4 aee aef)
         (obtain⟨b5,o5,aei,aej,Li,aek,ael,Tm,Tn,BP,BQ,hA5,hS5,hl5,hx5,hv5,aen,aeo,aep,FJ,FK,rU,rV,rW,rX,oI⟩:=cz.at HR2.out k h2';injection Option.some.inj hA5 with qb5 qo5 _;subst qb5 qo5;have HV5:=hide (Dat.cC.bel hbr hv5);have hh5:=hbr.box b4 hl5;have hw5:=ak hl5 (cE.size hbr);replace rU:=(hh5 _).trans rU;replace rV:=(hh5 _).trans rV;replace rW:=(hh5 _).trans rW;replace rX:=(hh5 _).trans rX;replace oI:=(hh5 _).trans oI;have HX5:=hide hx5;have Cy:=hide FJ;have yK:=hide FK;clear hh5 hv5 hx5 hS5 FJ FK)
         obtain⟨-,-,rfl,-,-⟩:cH=jf/\cM=gA/\cN=jg/\cO=jm/\cP=jn:=by have:=gv.out.symm.trans Xc.out;simpa using this
         have hS5:=hide (show x2[k].gK=Li by rw[HX5.out];rfl)
         by_cases hs0:cN=0
         ·
          have fs:(cN != 0)=false:=by simp[hs0]
          have HNW:=hide (show cN=0\/x2[k].gK≠cN from Or.inl hs0)
          clear hs0
          exact XL
         ·
          have fs:(cN != 0)=true:=by simp[hs0]
          by_cases hse:cN=Li
          ·
           have fe:(cN==Li)=true:=by simp[hse]
           have RR:=hide (Jw (s:=(cv.mk x0 x1 x2 x3 x4 x5 x6 x7 x8 x9 x10 x11 x12)) (Qj m k (by simpa[cv.jz]using h1) h2 (by simp only[cv.jz,List.getElem_map];rw[hSX.out];exact hs0) (by simp only[cv.jz,List.getElem_map];rw[hSX.out,hS5.out];exact hse.symm)))
           clear hs0 hse
           exact ov
          ·
           have fe:(cN==Li)=false:=by simp[hse]
           have HNW:=hide (show cN=0\/x2[k].gK≠cN from Or.inr (by rw[hS5.out];exact fun e=>hse e.symm))
           clear hs0 hse
           exact XL
        ·
         have hd2:decide ((k:Int)<(m:Int))=false:=bu
         go_wp2_with (fail)
         repeat (any_goals (go_quiet (fail);(try go_wp2_with (fail))))
         go_roundw
         case rel=>exact⟨m+1,by go_num,by omega,fun j hj hjm=>by
          by_cases e:j=m
          ·
           subst e;exact⟨HO.out,fun k2 hk2=>by rw[hSX.out];exact hk.out k2 aB aB⟩
          ·
           exact hm.out j hj aB,bl,hide (cG.bel bl hsw.out)⟩
         case measure=>simp[intOf];omega
     have hd:decide ((m:Int)<(x2.length:Int))=false:=aX
     have Qk:=hide (show (∀j (hj:j<x2.length),j<x2.length->dx (cv.mk x0 x1 x2 x3 x4 x5 x6 x7 x8 x9 x10 x11 x12) x2[j]=true/\∀k (hk:k<j),x2[j].gK=0\/(x2[k]' aB).gK≠x2[j].gK)from fun j hj _=>hm.out j hj aB)
     clear hm
     go_wp2_with (fail)
     repeat (any_goals (go_quiet (fail);(try go_wp2_with (fail))))
     cases hg:allB (cv.mk x0 x1 x2 x3 x4 x5 x6 x7 x8 x9 x10 x11 x12) x3
     ·
      have HG:=hide hg
      have RR:=hide (Jx (s:=(cv.mk x0 x1 x2 x3 x4 x5 x6 x7 x8 x9 x10 x11 x12)) hg)
      clear hg
      exact XM
     ·
      have HG:=hide hg
      have RR:=hide (Jy (s:=(cv.mk x0 x1 x2 x3 x4 x5 x6 x7 x8 x9 x10 x11 x12)) HH.out (fun j hj=>ZS.out j hj hj) (fun j hj=>Hr.out j hj hj) (fun j hj=>Hs.out j hj hj) (fun j hj=>(Qk.out j hj hj).1) (Ql fun a ha b hb=>by simp only[List.getElem_map];exact (Qk.out a b8 b8).2 b hb) hg)
      clear hg
      exact XM
end Go.Proofs.YtjngkknbpfgdcaaGreatDoor
