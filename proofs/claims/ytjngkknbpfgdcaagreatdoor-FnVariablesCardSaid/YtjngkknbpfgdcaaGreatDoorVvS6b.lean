import Derived.Test.YtjngkknbpfgdcaaGreatDoorVvS5
set_option linter.unusedVariables false
set_option linter.unusedSimpArgs false
set_option maxRecDepth 100000
set_option maxHeartbeats 8000000
namespace Go.Proofs.YtjngkknbpfgdcaaGreatDoor
open Go.RowKit Go.Proofs.Tryz
--%quiet
theorem NK (tag J:Int) (its keys:List R) (s:O):lO 105 s (.mk 4 tag J its keys):=by
 intro S S' q w vs hs hv
 have HS:=I hs
 obtain⟨Ai,ci,Ak,ck,rfl,_,nc,jM,gk,gm⟩:=cr.gK hv
 have lL:=I gk
 have rR:=I gm
 have mn:=gk.1
 have mU:=gk.2.1
 have lI:=gm.1
 have nf:=gm.2.1
 simp only[ar]at mn lI
 unfold maxLen at mU nf
 clear gk gm hv
 obtain⟨x0,x1,x2,x3,x4,x5,x6,x7,x8,x9,F,G,Z⟩:=s
 have js:=I hs
 obtain⟨A0,c0,A1,c1,A2,c2,A3,c3,A6,c6,A7,c7,A8,c8,hq,e0,e1,e2,e3,e4,e5,e6,e7,e8,e9,iE,jc,jd,fj,fm,fa,fb,ew,eL,eK,eV,eX,eY,fp,fq,fc,ff,g4,g5,g10,g11,g12,-,qv,-,-,-,-,-⟩:=cv.j8 hs
 clear hs
 have ga:¬q=w.heap.size:=aF
 have dX:U w w:=U.refl w
 by_cases rZ:J<1
 case pos =>
  have RR:=I (show cT (O.mk x0 x1 x2 x3 x4 x5 x6 x7 x8 x9 F G Z) (.mk 4 tag J its keys)=false by rw[jK];show (decide (1<=J/\J<=Z)&&_)=false;rw[ax (show ¬(1<=J/\J<=Z) by omega)];rfl)
  have qy:decide (J<1)=true:=aH
  exact tz
 case neg =>
 have qy:decide (J<1)=false:=aH
 by_cases Ba:Z<J
 case pos =>
  have RR:=I (show cT (O.mk x0 x1 x2 x3 x4 x5 x6 x7 x8 x9 F G Z) (.mk 4 tag J its keys)=false by rw[jK];show (decide (1<=J/\J<=Z)&&_)=false;rw[ax (show ¬(1<=J/\J<=Z) by omega)];rfl)
  have zI:decide (Z<J)=true:=aH
  exact tz
 case neg =>
 have zI:decide (Z<J)=false:=aH
 by_cases dn:tag=0
 case neg =>
  have RR:=I (show cT (O.mk x0 x1 x2 x3 x4 x5 x6 x7 x8 x9 F G Z) (.mk 4 tag J its keys)=false by rw[jK];(try simp only[O.cy,O.cu,cJ,cL,cP]);simp[dn])
  exact zH
 case pos =>
 by_cases fH:keys.length<=40
 case neg =>
  have RR:=I (show cT (O.mk x0 x1 x2 x3 x4 x5 x6 x7 x8 x9 F G Z) (.mk 4 tag J its keys)=false by rw[jK];(try simp only[O.cy,O.cu,cJ,cL,cP]);simp[fH])
  have dQ:(tag==0)=true:=aK
  have dR:(tag != 0)=false:=aL
  have je:decide ((keys.length:Int)<=40)=false:=ax aF
  have jf:decide (40<(keys.length:Int))=true:=ay aF
  clear dn fH
  exact tz
 case pos =>
 by_cases mY:its.length=0
 case neg =>
  have RR:=I (show cT (O.mk x0 x1 x2 x3 x4 x5 x6 x7 x8 x9 F G Z) (.mk 4 tag J its keys)=false by rw[jK];(try simp only[O.cy,O.cu,cJ,cL,cP]);simp[mY])
  have dQ:(tag==0)=true:=aK
  have dR:(tag != 0)=false:=aL
  have je:decide ((keys.length:Int)<=40)=true:=ay aF
  have jf:decide (40<(keys.length:Int))=false:=ax aF
  have vL:((its.length:Int)==0)=false:=aN
  have vM:((its.length:Int) != 0)=true:=aM
  clear dn fH mY
  exact tz
 case pos =>
 cases ib:fS (O.mk x0 x1 x2 x3 x4 x5 x6 x7 x8 x9 F G Z) keys
 case false =>
  have RR:=I (show cT (O.mk x0 x1 x2 x3 x4 x5 x6 x7 x8 x9 F G Z) (.mk 4 tag J its keys)=false by rw[jK];(try simp only[O.cy,O.cu,cJ,cL,cP]);rw[ib];simp)
  have dQ:(tag==0)=true:=aK
  have dR:(tag != 0)=false:=aL
  have je:decide ((keys.length:Int)<=40)=true:=ay aF
  have jf:decide (40<(keys.length:Int))=false:=ax aF
  have vL:((its.length:Int)==0)=true:=aK
  have vM:((its.length:Int) != 0)=false:=aL
  have mQ:=I ib
  clear dn fH mY ib
  go_enter func105,ntmps105
  have eF:=True.intro
  repeat (any_goals ((first | clear eF | go_quiet (fail));(try go_wp2_with (first | (go_at_call 106;(with_reducible refine (kj (O.mk x0 x1 x2 x3 x4 x5 x6 x7 x8 x9 F G Z) keys S S' q _ _ _ (cv.de bl HS.out) (Row.de bl rR.out)).mono ?_);rintro e wak ⟨rfl,qj⟩;rw[mQ.out];(have Rx:=qj.sz;obtain⟨Cd,Ce,Cf,Cg⟩:=qj.lay (w.heap.size);obtain⟨Ch,Ci,Cj,Ck⟩:=qj.lay (q)))))))
  all_goals
   go_returns
   exact⟨by rw[RR.out];first | done | rfl,bl⟩
 case true =>
 cases ju:mv keys
 case false =>
  have RR:=I (show cT (O.mk x0 x1 x2 x3 x4 x5 x6 x7 x8 x9 F G Z) (.mk 4 tag J its keys)=false by rw[jK];(try simp only[O.cy,O.cu,cJ,cL,cP]);rw[ju];simp)
  exact agZ
 case true =>
 have RR:=I (show cT (O.mk x0 x1 x2 x3 x4 x5 x6 x7 x8 x9 F G Z) (.mk 4 tag J its keys)=true by rw[jK];(try simp only[O.cy,O.cu,cJ,cL,cP]);(try simp only[R.v]);simp only[Bool.and_eq_true,decide_eq_true_eq];(repeat' apply And.intro) <;> first | assumption | trivial | exact ay ⟨by omega,by omega⟩ | exact ay aF | rfl | omega)
 exact agZ
theorem NL (tag J:Int) (its keys:List R) (s:O):lO 105 s (.mk 5 tag J its keys):=by
 intro S S' q w vs hs hv
 have HS:=I hs
 obtain⟨Ai,ci,Ak,ck,rfl,_,nc,jM,gk,gm⟩:=cr.gK hv
 have lL:=I gk
 have rR:=I gm
 have mn:=gk.1
 have mU:=gk.2.1
 have lI:=gm.1
 have nf:=gm.2.1
 simp only[ar]at mn lI
 unfold maxLen at mU nf
 clear gk gm hv
 obtain⟨x0,x1,x2,x3,x4,x5,x6,x7,x8,x9,F,G,Z⟩:=s
 have js:=I hs
 obtain⟨A0,c0,A1,c1,A2,c2,A3,c3,A6,c6,A7,c7,A8,c8,hq,e0,e1,e2,e3,e4,e5,e6,e7,e8,e9,iE,jc,jd,fj,fm,fa,fb,ew,eL,eK,eV,eX,eY,fp,fq,fc,ff,g4,g5,g10,g11,g12,-,qv,-,-,-,-,-⟩:=cv.j8 hs
 clear hs
 have ga:¬q=w.heap.size:=aF
 have dX:U w w:=U.refl w
 by_cases rZ:J<1
 case pos =>
  have RR:=I (show cT (O.mk x0 x1 x2 x3 x4 x5 x6 x7 x8 x9 F G Z) (.mk 5 tag J its keys)=false by rw[oT];show (decide (1<=J/\J<=Z)&&_)=false;rw[ax (show ¬(1<=J/\J<=Z) by omega)];rfl)
  have qy:decide (J<1)=true:=aH
  exact tz
 case neg =>
 have qy:decide (J<1)=false:=aH
 by_cases Ba:Z<J
 case pos =>
  have RR:=I (show cT (O.mk x0 x1 x2 x3 x4 x5 x6 x7 x8 x9 F G Z) (.mk 5 tag J its keys)=false by rw[oT];show (decide (1<=J/\J<=Z)&&_)=false;rw[ax (show ¬(1<=J/\J<=Z) by omega)];rfl)
  have zI:decide (Z<J)=true:=aH
  exact tz
 case neg =>
 have zI:decide (Z<J)=false:=aH
 by_cases cU:keys.length=0
 case neg =>
  have RR:=I (show cT (O.mk x0 x1 x2 x3 x4 x5 x6 x7 x8 x9 F G Z) (.mk 5 tag J its keys)=false by rw[oT];(try simp only[O.cy,O.cu,cJ,cL,cP]);simp[cU])
  exact KP
 case pos =>
 by_cases uh:0<=tag
 case neg =>
  have RR:=I (show cT (O.mk x0 x1 x2 x3 x4 x5 x6 x7 x8 x9 F G Z) (.mk 5 tag J its keys)=false by rw[oT];(try simp only[O.cy,O.cu,cJ,cL,cP]);simp[uh])
  have cW:((keys.length:Int)==0)=true:=aK
  have cX:((keys.length:Int) != 0)=false:=aL
  have Cl:decide (0<=tag)=false:=ax aF
  clear cU uh
  exact tz
 case pos =>
 by_cases ma:tag<(x1.length:Int)
 case neg =>
  have RR:=I (show cT (O.mk x0 x1 x2 x3 x4 x5 x6 x7 x8 x9 F G Z) (.mk 5 tag J its keys)=false by rw[oT];(try simp only[O.cy,O.cu,cJ,cL,cP]);simp[ma])
  have cW:((keys.length:Int)==0)=true:=aK
  have cX:((keys.length:Int) != 0)=false:=aL
  have Cl:decide (0<=tag)=true:=ay aF
  have jw:decide (tag<(x1.length:Int))=false:=ax aF
  clear cU uh ma
  exact tz
 case pos =>
 obtain⟨m,hm⟩:=Int.eq_ofNat_of_zero_le uh
 have jP:m<x1.length:=aF
 (obtain⟨b4,o4,iq,fV,iu,abC,abD,Vw,hl4,LH,Yb,HV4,QA,Hl,QB,Mx,My,Mz⟩:=cw.el qv.out m jP dX;subst Vw)
 have Fz:¬b4=w.heap.size:=aF
 have hx:(x1.getD tag.toNat (.mk ByteArray.empty [] 0)).fields=fV:=by
  exact YD
 have hf4:=Hl.out.1
 have abE:=Hl.out.2.1
 simp only[ar]at hf4
 unfold maxLen at abE
 by_cases FV:its.length=fV.length
 case neg =>
  have RR:=I (show cT (O.mk x0 x1 x2 x3 x4 x5 x6 x7 x8 x9 F G Z) (.mk 5 tag J its keys)=false by rw[pg (O.mk x0 x1 x2 x3 x4 x5 x6 x7 x8 x9 F G Z) _ _ _ _ fV hx];(try simp only[O.cy,O.cu]);simp[FV])
  have cW:((keys.length:Int)==0)=true:=aK
  have cX:((keys.length:Int) != 0)=false:=aL
  have Cl:decide (0<=tag)=true:=ay aF
  have jw:decide (tag<(x1.length:Int))=true:=ay aF
  have Ry:((its.length:Int)==(fV.length:Int))=false:=aN
  clear hx
  subst hm
  clear cU uh ma FV
  exact tz
 case pos =>
 cases eS:fS (O.mk x0 x1 x2 x3 x4 x5 x6 x7 x8 x9 F G Z) its
 case false =>
  have RR:=I (show cT (O.mk x0 x1 x2 x3 x4 x5 x6 x7 x8 x9 F G Z) (.mk 5 tag J its keys)=false by rw[pg (O.mk x0 x1 x2 x3 x4 x5 x6 x7 x8 x9 F G Z) _ _ _ _ fV hx];(try simp only[O.cy,O.cu]);rw[eS];simp)
  exact ag0
 case true =>
 have RR:=I (show cT (O.mk x0 x1 x2 x3 x4 x5 x6 x7 x8 x9 F G Z) (.mk 5 tag J its keys)=true by rw[pg (O.mk x0 x1 x2 x3 x4 x5 x6 x7 x8 x9 F G Z) _ _ _ _ fV hx];(try simp only[O.cy,O.cu,cJ,cL,cP]);(try simp only[R.v]);simp only[Bool.and_eq_true,decide_eq_true_eq];(repeat' apply And.intro) <;> first | assumption | trivial | exact ay ⟨by omega,by omega⟩ | exact ay aF | rfl | omega)
 exact ag0
theorem NM (tag J:Int) (its keys:List R) (s:O):lO 105 s (.mk 7 tag J its keys):=by
 intro S S' q w vs hs hv
 have HS:=I hs
 obtain⟨Ai,ci,Ak,ck,rfl,_,nc,jM,gk,gm⟩:=cr.gK hv
 have lL:=I gk
 have rR:=I gm
 have mn:=gk.1
 have mU:=gk.2.1
 have lI:=gm.1
 have nf:=gm.2.1
 simp only[ar]at mn lI
 unfold maxLen at mU nf
 clear gk gm hv
 obtain⟨x0,x1,x2,x3,x4,x5,x6,x7,x8,x9,F,G,Z⟩:=s
 have js:=I hs
 obtain⟨A0,c0,A1,c1,A2,c2,A3,c3,A6,c6,A7,c7,A8,c8,hq,e0,e1,e2,e3,e4,e5,e6,e7,e8,e9,iE,jc,jd,fj,fm,fa,fb,ew,eL,eK,eV,eX,eY,fp,fq,fc,ff,g4,g5,g10,g11,g12,-,qv,-,-,-,-,-⟩:=cv.j8 hs
 clear hs
 have ga:¬q=w.heap.size:=aF
 have dX:U w w:=U.refl w
 by_cases rZ:J<1
 case pos =>
  have RR:=I (show cT (O.mk x0 x1 x2 x3 x4 x5 x6 x7 x8 x9 F G Z) (.mk 7 tag J its keys)=false by rw[rq];show (decide (1<=J/\J<=Z)&&_)=false;rw[ax (show ¬(1<=J/\J<=Z) by omega)];rfl)
  have qy:decide (J<1)=true:=aH
  exact tz
 case neg =>
 have qy:decide (J<1)=false:=aH
 by_cases Ba:Z<J
 case pos =>
  have RR:=I (show cT (O.mk x0 x1 x2 x3 x4 x5 x6 x7 x8 x9 F G Z) (.mk 7 tag J its keys)=false by rw[rq];show (decide (1<=J/\J<=Z)&&_)=false;rw[ax (show ¬(1<=J/\J<=Z) by omega)];rfl)
  have zI:decide (Z<J)=true:=aH
  exact tz
 case neg =>
 have zI:decide (Z<J)=false:=aH
 by_cases cU:keys.length=0
 case neg =>
  have RR:=I (show cT (O.mk x0 x1 x2 x3 x4 x5 x6 x7 x8 x9 F G Z) (.mk 7 tag J its keys)=false by rw[rq];(try simp only[O.cy,O.cu,cJ,cL,cP]);simp[cU])
  exact KP
 case pos =>
 cases zJ:ez (O.mk x0 x1 x2 x3 x4 x5 x6 x7 x8 x9 F G Z) tag its
 case false =>
  have RR:=I (show cT (O.mk x0 x1 x2 x3 x4 x5 x6 x7 x8 x9 F G Z) (.mk 7 tag J its keys)=false by rw[rq];(try simp only[O.cy,O.cu,cJ,cL,cP]);rw[zJ];simp)
  exact ag1
 case true =>
 have RR:=I (show cT (O.mk x0 x1 x2 x3 x4 x5 x6 x7 x8 x9 F G Z) (.mk 7 tag J its keys)=true by rw[rq];(try simp only[O.cy,O.cu,cJ,cL,cP]);(try simp only[R.v]);simp only[Bool.and_eq_true,decide_eq_true_eq];(repeat' apply And.intro) <;> first | assumption | trivial | exact ay ⟨by omega,by omega⟩ | exact ay aF | rfl | omega)
 exact ag1
theorem Hm (kd:Int) (sw:kd<1\/9<kd) (tag J:Int) (its keys:List R) (s:O):lO 105 s (.mk kd tag J its keys):=by
 intro S S' q w vs hs hv
 have HS:=I hs
 obtain⟨Ai,ci,Ak,ck,rfl,_,nc,jM,gk,gm⟩:=cr.gK hv
 have lL:=I gk
 have rR:=I gm
 have mn:=gk.1
 have mU:=gk.2.1
 have lI:=gm.1
 have nf:=gm.2.1
 simp only[ar]at mn lI
 unfold maxLen at mU nf
 clear gk gm hv
 obtain⟨x0,x1,x2,x3,x4,x5,x6,x7,x8,x9,F,G,Z⟩:=s
 have js:=I hs
 obtain⟨A0,c0,A1,c1,A2,c2,A3,c3,A6,c6,A7,c7,A8,c8,hq,e0,e1,e2,e3,e4,e5,e6,e7,e8,e9,iE,jc,jd,fj,fm,fa,fb,ew,eL,eK,eV,eX,eY,fp,fq,fc,ff,g4,g5,g10,g11,g12,-,qv,-,-,-,-,-⟩:=cv.j8 hs
 clear hs
 have ga:¬q=w.heap.size:=aF
 have dX:U w w:=U.refl w
 have RR:=I (Hn (O.mk x0 x1 x2 x3 x4 x5 x6 x7 x8 x9 F G Z) kd tag J its keys sw)
 have k_1:(kd==1)=false:=aH
 have k_2:(kd==2)=false:=aH
 have k_3:(kd==3)=false:=aH
 have k_4:(kd==4)=false:=aH
 have k_5:(kd==5)=false:=aH
 have k_6:(kd==6)=false:=aH
 have k_7:(kd==7)=false:=aH
 have k_8:(kd==8)=false:=aH
 have k_9:(kd==9)=false:=aH
 have m_3:(kd != 3)=true:=aH
 have m_4:(kd != 4)=true:=aH
 have m_5:(kd != 5)=true:=aH
 have m_6:(kd != 6)=true:=aH
 have m_7:(kd != 7)=true:=aH
 have yM:(decide (2<=kd)&&decide (kd<=7))=false:=aH
 rcases sw with sw | sw
 ·
  have d_2:decide (2<=kd)=false:=aH
  exact YE
 ·
  have d_2:decide (2<=kd)=true:=aH
  have d_7:decide (kd<=7)=false:=aH
  exact YE
end Go.Proofs.YtjngkknbpfgdcaaGreatDoor
