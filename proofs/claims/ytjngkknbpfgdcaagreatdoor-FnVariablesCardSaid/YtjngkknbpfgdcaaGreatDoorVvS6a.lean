import Derived.Test.YtjngkknbpfgdcaaGreatDoorVvS5
set_option linter.unusedVariables false
set_option linter.unusedSimpArgs false
set_option maxRecDepth 100000
set_option maxHeartbeats 8000000
namespace Go.Proofs.YtjngkknbpfgdcaaGreatDoor
open Go.RowKit Go.Proofs.Tryz
--%quiet
theorem NH (tag J:Int) (its keys:List R) (s:O):lO 105 s (.mk 1 tag J its keys):=by
 intro S S' q w vs hs hv
 have HS:=I hs
 obtain⟨Ai,ci,Ak,ck,rfl,_,nc,jM,gk,gm⟩:=cr.gK hv
 have lL:=I gk
 have rR:=I gm
 have mn:=gk.1
 have mU:=gk.2.1
 have lI:=gm.1
 have nf:=gm.2.1
 simp only[ar]at mn lI
 unfold maxLen at mU nf
 clear gk gm hv
 obtain⟨x0,x1,x2,x3,x4,x5,x6,x7,x8,x9,F,G,Z⟩:=s
 have js:=I hs
 obtain⟨A0,c0,A1,c1,A2,c2,A3,c3,A6,c6,A7,c7,A8,c8,hq,e0,e1,e2,e3,e4,e5,e6,e7,e8,e9,iE,jc,jd,fj,fm,fa,fb,ew,eL,eK,eV,eX,eY,fp,fq,fc,ff,g4,g5,g10,g11,g12,-,qv,-,-,-,-,-⟩:=cv.j8 hs
 clear hs
 have ga:¬q=w.heap.size:=aF
 have dX:U w w:=U.refl w
 by_cases rZ:¬J=0
 case pos =>
  have RR:=I (show cT (O.mk x0 x1 x2 x3 x4 x5 x6 x7 x8 x9 F G Z) (.mk 1 tag J its keys)=false by rw[kN];show (decide (J=0)&&_)=false;rw[ax rZ];rfl)
  have qy:(J != 0)=true:=aH
  exact tz
 case neg =>
 have qy:(J != 0)=false:=aH
 by_cases dn:tag=0
 case neg =>
  have RR:=I (show cT (O.mk x0 x1 x2 x3 x4 x5 x6 x7 x8 x9 F G Z) (.mk 1 tag J its keys)=false by rw[kN];(try simp only[O.cy,O.cu,cJ,cL,cP]);simp[dn])
  exact zH
 case pos =>
 by_cases cU:keys.length=0
 case neg =>
  have RR:=I (show cT (O.mk x0 x1 x2 x3 x4 x5 x6 x7 x8 x9 F G Z) (.mk 1 tag J its keys)=false by rw[kN];(try simp only[O.cy,O.cu,cJ,cL,cP]);simp[cU])
  exact Ec
 case pos =>
 by_cases mE:its.length<=24
 case neg =>
  have RR:=I (show cT (O.mk x0 x1 x2 x3 x4 x5 x6 x7 x8 x9 F G Z) (.mk 1 tag J its keys)=false by rw[kN];(try simp only[O.cy,O.cu,cJ,cL,cP]);simp[mE])
  have dQ:(tag==0)=true:=aK
  have dR:(tag != 0)=false:=aL
  have cW:((keys.length:Int)==0)=true:=aK
  have cX:((keys.length:Int) != 0)=false:=aL
  have Ca:decide ((its.length:Int)<=24)=false:=ax aF
  have Cb:decide (24<(its.length:Int))=true:=ay aF
  clear dn cU mE
  exact tz
 case pos =>
 cases eS:fS (O.mk x0 x1 x2 x3 x4 x5 x6 x7 x8 x9 F G Z) its
 case false =>
  have RR:=I (show cT (O.mk x0 x1 x2 x3 x4 x5 x6 x7 x8 x9 F G Z) (.mk 1 tag J its keys)=false by rw[kN];(try simp only[O.cy,O.cu,cJ,cL,cP]);rw[eS];simp)
  exact YB
 case true =>
 have RR:=I (show cT (O.mk x0 x1 x2 x3 x4 x5 x6 x7 x8 x9 F G Z) (.mk 1 tag J its keys)=true by rw[kN];(try simp only[O.cy,O.cu,cJ,cL,cP]);(try simp only[R.v]);simp only[Bool.and_eq_true,decide_eq_true_eq];(repeat' apply And.intro) <;> first | assumption | trivial | exact ay ⟨by omega,by omega⟩ | exact ay aF | rfl | omega)
 exact YB
theorem NI (tag J:Int) (its keys:List R) (s:O):lO 105 s (.mk 2 tag J its keys):=by
 intro S S' q w vs hs hv
 have HS:=I hs
 obtain⟨Ai,ci,Ak,ck,rfl,_,nc,jM,gk,gm⟩:=cr.gK hv
 have lL:=I gk
 have rR:=I gm
 have mn:=gk.1
 have mU:=gk.2.1
 have lI:=gm.1
 have nf:=gm.2.1
 simp only[ar]at mn lI
 unfold maxLen at mU nf
 clear gk gm hv
 obtain⟨x0,x1,x2,x3,x4,x5,x6,x7,x8,x9,F,G,Z⟩:=s
 have js:=I hs
 obtain⟨A0,c0,A1,c1,A2,c2,A3,c3,A6,c6,A7,c7,A8,c8,hq,e0,e1,e2,e3,e4,e5,e6,e7,e8,e9,iE,jc,jd,fj,fm,fa,fb,ew,eL,eK,eV,eX,eY,fp,fq,fc,ff,g4,g5,g10,g11,g12,-,qv,-,-,-,-,-⟩:=cv.j8 hs
 clear hs
 have ga:¬q=w.heap.size:=aF
 have dX:U w w:=U.refl w
 by_cases rZ:J<1
 case pos =>
  have RR:=I (show cT (O.mk x0 x1 x2 x3 x4 x5 x6 x7 x8 x9 F G Z) (.mk 2 tag J its keys)=false by rw[kq];show (decide (1<=J/\J<=Z)&&_)=false;rw[ax (show ¬(1<=J/\J<=Z) by omega)];rfl)
  have qy:decide (J<1)=true:=aH
  exact tz
 case neg =>
 have qy:decide (J<1)=false:=aH
 by_cases Ba:Z<J
 case pos =>
  have RR:=I (show cT (O.mk x0 x1 x2 x3 x4 x5 x6 x7 x8 x9 F G Z) (.mk 2 tag J its keys)=false by rw[kq];show (decide (1<=J/\J<=Z)&&_)=false;rw[ax (show ¬(1<=J/\J<=Z) by omega)];rfl)
  have zI:decide (Z<J)=true:=aH
  exact tz
 case neg =>
 have zI:decide (Z<J)=false:=aH
 by_cases dn:tag=0
 case neg =>
  have RR:=I (show cT (O.mk x0 x1 x2 x3 x4 x5 x6 x7 x8 x9 F G Z) (.mk 2 tag J its keys)=false by rw[kq];(try simp only[O.cy,O.cu,cJ,cL,cP]);simp[dn])
  exact zH
 case pos =>
 by_cases cU:keys.length=0
 case neg =>
  have RR:=I (show cT (O.mk x0 x1 x2 x3 x4 x5 x6 x7 x8 x9 F G Z) (.mk 2 tag J its keys)=false by rw[kq];(try simp only[O.cy,O.cu,cJ,cL,cP]);simp[cU])
  exact Ec
 case pos =>
 by_cases mE:its.length<=40
 case neg =>
  have RR:=I (show cT (O.mk x0 x1 x2 x3 x4 x5 x6 x7 x8 x9 F G Z) (.mk 2 tag J its keys)=false by rw[kq];(try simp only[O.cy,O.cu,cJ,cL,cP]);simp[mE])
  have dQ:(tag==0)=true:=aK
  have dR:(tag != 0)=false:=aL
  have cW:((keys.length:Int)==0)=true:=aK
  have cX:((keys.length:Int) != 0)=false:=aL
  have Ca:decide ((its.length:Int)<=40)=false:=ax aF
  have Cb:decide (40<(its.length:Int))=true:=ay aF
  clear dn cU mE
  exact tz
 case pos =>
 cases eS:fS (O.mk x0 x1 x2 x3 x4 x5 x6 x7 x8 x9 F G Z) its
 case false =>
  have RR:=I (show cT (O.mk x0 x1 x2 x3 x4 x5 x6 x7 x8 x9 F G Z) (.mk 2 tag J its keys)=false by rw[kq];(try simp only[O.cy,O.cu,cJ,cL,cP]);rw[eS];simp)
  exact YC
 case true =>
 have RR:=I (show cT (O.mk x0 x1 x2 x3 x4 x5 x6 x7 x8 x9 F G Z) (.mk 2 tag J its keys)=true by rw[kq];(try simp only[O.cy,O.cu,cJ,cL,cP]);(try simp only[R.v]);simp only[Bool.and_eq_true,decide_eq_true_eq];(repeat' apply And.intro) <;> first | assumption | trivial | exact ay ⟨by omega,by omega⟩ | exact ay aF | rfl | omega)
 exact YC
--%quiet
theorem NJ (tag J:Int) (its keys:List R) (s:O):lO 105 s (.mk 3 tag J its keys):=by
 intro S S' q w vs hs hv
 have HS:=I hs
 obtain⟨Ai,ci,Ak,ck,rfl,_,nc,jM,gk,gm⟩:=cr.gK hv
 have lL:=I gk
 have rR:=I gm
 have mn:=gk.1
 have mU:=gk.2.1
 have lI:=gm.1
 have nf:=gm.2.1
 simp only[ar]at mn lI
 unfold maxLen at mU nf
 clear gk gm hv
 obtain⟨x0,x1,x2,x3,x4,x5,x6,x7,x8,x9,F,G,Z⟩:=s
 have js:=I hs
 obtain⟨A0,c0,A1,c1,A2,c2,A3,c3,A6,c6,A7,c7,A8,c8,hq,e0,e1,e2,e3,e4,e5,e6,e7,e8,e9,iE,jc,jd,fj,fm,fa,fb,ew,eL,eK,eV,eX,eY,fp,fq,fc,ff,g4,g5,g10,g11,g12,-,qv,-,-,-,-,-⟩:=cv.j8 hs
 clear hs
 have ga:¬q=w.heap.size:=aF
 have dX:U w w:=U.refl w
 by_cases rZ:J<1
 case pos =>
  have RR:=I (show cT (O.mk x0 x1 x2 x3 x4 x5 x6 x7 x8 x9 F G Z) (.mk 3 tag J its keys)=false by rw[im];show (decide (1<=J/\J<=Z)&&_)=false;rw[ax (show ¬(1<=J/\J<=Z) by omega)];rfl)
  have qy:decide (J<1)=true:=aH
  exact tz
 case neg =>
 have qy:decide (J<1)=false:=aH
 by_cases Ba:Z<J
 case pos =>
  have RR:=I (show cT (O.mk x0 x1 x2 x3 x4 x5 x6 x7 x8 x9 F G Z) (.mk 3 tag J its keys)=false by rw[im];show (decide (1<=J/\J<=Z)&&_)=false;rw[ax (show ¬(1<=J/\J<=Z) by omega)];rfl)
  have zI:decide (Z<J)=true:=aH
  exact tz
 case neg =>
 have zI:decide (Z<J)=false:=aH
 by_cases dn:tag=0
 case neg =>
  have RR:=I (show cT (O.mk x0 x1 x2 x3 x4 x5 x6 x7 x8 x9 F G Z) (.mk 3 tag J its keys)=false by rw[im];(try simp only[O.cy,O.cu,cJ,cL,cP]);simp[dn])
  exact zH
 case pos =>
 by_cases fH:keys.length<=40
 case neg =>
  have RR:=I (show cT (O.mk x0 x1 x2 x3 x4 x5 x6 x7 x8 x9 F G Z) (.mk 3 tag J its keys)=false by rw[im];(try simp only[O.cy,O.cu,cJ,cL,cP]);simp[fH])
  have dQ:(tag==0)=true:=aK
  have dR:(tag != 0)=false:=aL
  have je:decide ((keys.length:Int)<=40)=false:=ax aF
  have jf:decide (40<(keys.length:Int))=true:=ay aF
  clear dn
  exact tz
 case pos =>
 by_cases kI:its.length=keys.length+1
 case neg =>
  have RR:=I (show cT (O.mk x0 x1 x2 x3 x4 x5 x6 x7 x8 x9 F G Z) (.mk 3 tag J its keys)=false by rw[im];(try simp only[O.cy,O.cu,cJ,cL,cP]);simp[kI])
  have dQ:(tag==0)=true:=aK
  have dR:(tag != 0)=false:=aL
  have je:decide ((keys.length:Int)<=40)=true:=ay aF
  have jf:decide (40<(keys.length:Int))=false:=ax aF
  have yx:((its.length:Int)==(keys.length:Int)+1)=false:=aN
  have sL:((its.length:Int)==1+(keys.length:Int))=false:=aN
  clear dn kI
  exact tz
 case pos =>
 cases eS:fS (O.mk x0 x1 x2 x3 x4 x5 x6 x7 x8 x9 F G Z) its
 case false =>
  have RR:=I (show cT (O.mk x0 x1 x2 x3 x4 x5 x6 x7 x8 x9 F G Z) (.mk 3 tag J its keys)=false by rw[im];(try simp only[O.cy,O.cu,cJ,cL,cP]);rw[eS];simp)
  have dQ:(tag==0)=true:=aK
  have dR:(tag != 0)=false:=aL
  have je:decide ((keys.length:Int)<=40)=true:=ay aF
  have jf:decide (40<(keys.length:Int))=false:=ax aF
  have yx:((its.length:Int)==(keys.length:Int)+1)=true:=aK
  have sL:((its.length:Int)==1+(keys.length:Int))=true:=aK
  have kO:=I eS
  clear dn kI eS
  exact abB
 case true =>
 cases ib:fS (O.mk x0 x1 x2 x3 x4 x5 x6 x7 x8 x9 F G Z) keys
 case false =>
  have RR:=I (show cT (O.mk x0 x1 x2 x3 x4 x5 x6 x7 x8 x9 F G Z) (.mk 3 tag J its keys)=false by rw[im];(try simp only[O.cy,O.cu,cJ,cL,cP]);rw[ib];simp)
  have dQ:(tag==0)=true:=aK
  have dR:(tag != 0)=false:=aL
  have je:decide ((keys.length:Int)<=40)=true:=ay aF
  have jf:decide (40<(keys.length:Int))=false:=ax aF
  have yx:((its.length:Int)==(keys.length:Int)+1)=true:=aK
  have sL:((its.length:Int)==1+(keys.length:Int))=true:=aK
  have kO:=I eS
  have mQ:=I ib
  clear dn kI eS ib
  go_enter func105,ntmps105
  have eF:=True.intro
  repeat (any_goals ((first | clear eF | go_quiet (fail));(try go_wp2_with (first | (go_at_call 106;(with_reducible refine (kj (O.mk x0 x1 x2 x3 x4 x5 x6 x7 x8 x9 F G Z) its S S' q _ _ _ (cv.de bl HS.out) (Row.de bl lL.out)).mono ?_);rintro e Rw ⟨rfl,jt⟩;rw[kO.out];(have Cc:=jt.sz;obtain⟨qb,qc,qd,qe⟩:=jt.lay (w.heap.size);obtain⟨qf,qg,qh,qi⟩:=jt.lay (q))) | (go_at_call 106;(with_reducible refine (kj (O.mk x0 x1 x2 x3 x4 x5 x6 x7 x8 x9 F G Z) keys S S' q _ _ _ (cv.de bl HS.out) (Row.de bl rR.out)).mono ?_);rintro e wak ⟨rfl,qj⟩;rw[mQ.out];(have Rx:=qj.sz;obtain⟨Cd,Ce,Cf,Cg⟩:=qj.lay (w.heap.size);obtain⟨Ch,Ci,Cj,Ck⟩:=qj.lay (q)))))))
  all_goals
   go_returns
   exact⟨by rw[RR.out];first | done | rfl,bl⟩
 case true =>
 cases ju:mv keys
 case false =>
  have RR:=I (show cT (O.mk x0 x1 x2 x3 x4 x5 x6 x7 x8 x9 F G Z) (.mk 3 tag J its keys)=false by rw[im];(try simp only[O.cy,O.cu,cJ,cL,cP]);rw[ju];simp)
  exact agY
 case true =>
 have RR:=I (show cT (O.mk x0 x1 x2 x3 x4 x5 x6 x7 x8 x9 F G Z) (.mk 3 tag J its keys)=true by rw[im];(try simp only[O.cy,O.cu,cJ,cL,cP]);(try simp only[R.v]);simp only[Bool.and_eq_true,decide_eq_true_eq];(repeat' apply And.intro) <;> first | assumption | trivial | exact ay ⟨by omega,by omega⟩ | exact ay aF | rfl | omega)
 exact agY
end Go.Proofs.YtjngkknbpfgdcaaGreatDoor
