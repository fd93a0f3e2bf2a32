import Derived.Test.YtjngkknbpfgdcaaGreatDoorVvS5
set_option linter.unusedVariables false
set_option linter.unusedSimpArgs false
set_option maxRecDepth 100000
set_option maxHeartbeats 8000000
namespace Go.Proofs.YtjngkknbpfgdcaaGreatDoor
open Go.RowKit Go.Proofs.Tryz
--%quiet
theorem NN (tag J:Int) (its keys:List R) (s:O):lO 105 s (.mk 6 tag J its keys):=by
 intro S S' q w vs hs hv
 have HS:=I hs
 obtain⟨Ai,ci,Ak,ck,rfl,_,nc,jM,gk,gm⟩:=cr.gK hv
 have lL:=I gk
 have rR:=I gm
 have mn:=gk.1
 have mU:=gk.2.1
 have lI:=gm.1
 have nf:=gm.2.1
 simp only[ar]at mn lI
 unfold maxLen at mU nf
 clear gk gm hv
 obtain⟨x0,x1,x2,x3,x4,x5,x6,x7,x8,x9,F,G,Z⟩:=s
 have js:=I hs
 obtain⟨A0,c0,A1,c1,A2,c2,A3,c3,A6,c6,A7,c7,A8,c8,hq,e0,e1,e2,e3,e4,e5,e6,e7,e8,e9,iE,jc,jd,fj,fm,fa,fb,ew,eL,eK,eV,eX,eY,fp,fq,fc,ff,g4,g5,g10,g11,g12,-,qv,-,-,-,-,-⟩:=cv.j8 hs
 clear hs
 have ga:¬q=w.heap.size:=aF
 have dX:U w w:=U.refl w
 by_cases rZ:J<1
 case pos =>
  have RR:=I (show cT (O.mk x0 x1 x2 x3 x4 x5 x6 x7 x8 x9 F G Z) (.mk 6 tag J its keys)=false by rw[eT];show (decide (1<=J/\J<=Z)&&_)=false;rw[ax (show ¬(1<=J/\J<=Z) by omega)];rfl)
  have qy:decide (J<1)=true:=aH
  exact tz
 case neg =>
 have qy:decide (J<1)=false:=aH
 by_cases Ba:Z<J
 case pos =>
  have RR:=I (show cT (O.mk x0 x1 x2 x3 x4 x5 x6 x7 x8 x9 F G Z) (.mk 6 tag J its keys)=false by rw[eT];show (decide (1<=J/\J<=Z)&&_)=false;rw[ax (show ¬(1<=J/\J<=Z) by omega)];rfl)
  have zI:decide (Z<J)=true:=aH
  exact tz
 case neg =>
 have zI:decide (Z<J)=false:=aH
 by_cases hlen:its.length=3
 case neg =>
  have kJ:=hlen
  by_cases cU:keys.length=0
  case neg =>
   have RR:=I (show cT (O.mk x0 x1 x2 x3 x4 x5 x6 x7 x8 x9 F G Z) (.mk 6 tag J its keys)=false by rw[eT];(try simp only[O.cy,O.cu,cJ,cL,cP]);simp[cU])
   exact KP
  case pos =>
  by_cases ma:1<=tag
  case neg =>
   have RR:=I (show cT (O.mk x0 x1 x2 x3 x4 x5 x6 x7 x8 x9 F G Z) (.mk 6 tag J its keys)=false by rw[eT];(try simp only[O.cy,O.cu,cJ,cL,cP]);simp[ma])
   exact YF
  case pos =>
  have RR:=I (show cT (O.mk x0 x1 x2 x3 x4 x5 x6 x7 x8 x9 F G Z) (.mk 6 tag J its keys)=false by rw[eT];(try simp only[O.cy,O.cu,cJ,cL,cP]);simp[kJ])
  have cW:((keys.length:Int)==0)=true:=aK
  have cX:((keys.length:Int) != 0)=false:=aL
  have jw:decide (1<=tag)=true:=ay aF
  have km:decide (tag<1)=false:=ax aF
  have kn:decide (0<tag)=true:=ay aF
  have sl:((its.length:Int)==3)=false:=aN
  have sn:((its.length:Int) != 3)=true:=aM
  clear cU kJ
  exact NO
 case pos =>
 obtain⟨a,b,c,rfl⟩:∃a b c,its=[a,b,c]:=by
  match its,hlen with
  | [a,b,c],_=>exact⟨a,b,c,rfl⟩
 simp only[aD,aE,Nat.reduceAdd]at mn
 clear hlen
 (obtain⟨b1,o1,cz,cD,cE,cB,cF,cO,gb,dS,gy,gF,kP,eN,fi,eO,fT,gD,gE,fD,fE,fG,fK,fN,jy⟩:=R.e0 lL.out aJ dX;subst gb)
 (obtain⟨b2,o2,da,dw,dx,dy,dz,dA,mO,mu,nn,od,vz,kv,kz,kA,iw,kD,kE,jS,jT,jU,jV,jW,j1⟩:=R.e1 lL.out aJ dX;injection Option.some.inj mO with qb2 tm _;subst qb2 tm)
 (obtain⟨b3,o3,j9,gh,iI,iJ,iK,iL,Mw,yN,ve,Qu,OY,Jv,Jw,Jx,FJ,Jy,Jz,Qv,AP,Qw,Qx,Qy,Qz⟩:=R.e2 lL.out aJ dX;injection Option.some.inj Mw with qb3 qo3 _;subst qb3 qo3)
 have iH:¬b1=w.heap.size:=aF
 obtain rfl:a=.mk cz cD cE cB cF cO:=gF.out
 have Bi:=I fT
 unfold maxLen at fT
 obtain rfl:b=.mk da dw dx dy dz dA:=od.out
 have Ed:=I iw
 unfold maxLen at iw
 obtain rfl:c=.mk j9 gh iI iJ iK iL:=Qu.out
 have GT3:=I FJ
 unfold maxLen at FJ
 by_cases cU:keys.length=0
 case neg =>
  have RR:=I (show cT (O.mk x0 x1 x2 x3 x4 x5 x6 x7 x8 x9 F G Z) (.mk 6 tag J [.mk cz cD cE cB cF cO,.mk da dw dx dy dz dA,.mk j9 gh iI iJ iK iL] keys)=false by rw[eT];(try simp only[O.cy,O.cu,cJ,cL,cP]);simp[cU])
  exact KP
 case pos =>
 by_cases ma:1<=tag
 case neg =>
  have RR:=I (show cT (O.mk x0 x1 x2 x3 x4 x5 x6 x7 x8 x9 F G Z) (.mk 6 tag J [.mk cz cD cE cB cF cO,.mk da dw dx dy dz dA,.mk j9 gh iI iJ iK iL] keys)=false by rw[eT];(try simp only[O.cy,O.cu,cJ,cL,cP]);simp[ma])
  exact YF
 case pos =>
 by_cases kF:cz=19
 case neg =>
  have RR:=I (show cT (O.mk x0 x1 x2 x3 x4 x5 x6 x7 x8 x9 F G Z) (.mk 6 tag J [.mk cz cD cE cB cF cO,.mk da dw dx dy dz dA,.mk j9 gh iI iJ iK iL] keys)=false by rw[eT];(try simp only[O.cy,O.cu,cJ,cL,cP]);simp[R.v,kF])
  have cW:((keys.length:Int)==0)=true:=aK
  have cX:((keys.length:Int) != 0)=false:=aL
  have jw:decide (1<=tag)=true:=ay aF
  have km:decide (tag<1)=false:=ax aF
  have kn:decide (0<tag)=true:=ay aF
  have Rz:(cz==19)=false:=aN
  have RA:(cz != 19)=true:=aM
  clear cU kF
  exact NO
 case pos =>
 subst kF
 by_cases nU:da=19
 case neg =>
  have RR:=I (show cT (O.mk x0 x1 x2 x3 x4 x5 x6 x7 x8 x9 F G Z) (.mk 6 tag J [.mk 19 cD cE cB cF cO,.mk da dw dx dy dz dA,.mk j9 gh iI iJ iK iL] keys)=false by rw[eT];(try simp only[O.cy,O.cu,cJ,cL,cP]);simp[R.v,nU])
  have cW:((keys.length:Int)==0)=true:=aK
  have cX:((keys.length:Int) != 0)=false:=aL
  have jw:decide (1<=tag)=true:=ay aF
  have km:decide (tag<1)=false:=ax aF
  have kn:decide (0<tag)=true:=ay aF
  have abG:(da==19)=false:=aN
  have abH:(da != 19)=true:=aM
  clear cU nU
  exact NO
 case pos =>
 subst nU
 by_cases zg:j9=1
 case neg =>
  have RR:=I (show cT (O.mk x0 x1 x2 x3 x4 x5 x6 x7 x8 x9 F G Z) (.mk 6 tag J [.mk 19 cD cE cB cF cO,.mk 19 dw dx dy dz dA,.mk j9 gh iI iJ iK iL] keys)=false by rw[eT];(try simp only[O.cy,O.cu,cJ,cL,cP]);simp[R.v,zg])
  have cW:((keys.length:Int)==0)=true:=aK
  have cX:((keys.length:Int) != 0)=false:=aL
  have jw:decide (1<=tag)=true:=ay aF
  have km:decide (tag<1)=false:=ax aF
  have kn:decide (0<tag)=true:=ay aF
  have al5:(j9==1)=false:=aN
  have al6:(j9 != 1)=true:=aM
  clear cU zg
  exact NO
 case pos =>
 subst zg
 by_cases FW:0<=gh
 case neg =>
  have RR:=I (show cT (O.mk x0 x1 x2 x3 x4 x5 x6 x7 x8 x9 F G Z) (.mk 6 tag J [.mk 19 cD cE cB cF cO,.mk 19 dw dx dy dz dA,.mk 1 gh iI iJ iK iL] keys)=false from by rw[eT];refine Bool.eq_false_iff.2 fun hh=>?_;simp only[Bool.and_eq_true,decide_eq_true_eq]at hh;(try simp only[cJ,cL,cP,R.v]at hh);omega)
  have cW:((keys.length:Int)==0)=true:=aK
  have cX:((keys.length:Int) != 0)=false:=aL
  have jw:decide (1<=tag)=true:=ay aF
  have km:decide (tag<1)=false:=ax aF
  have kn:decide (0<tag)=true:=ay aF
  have Cm:decide (0<=gh)=false:=ax aF
  clear cU FW
  exact NO
 case pos =>
 cases fR:eE (O.mk x0 x1 x2 x3 x4 x5 x6 x7 x8 x9 F G Z) ⟨19,cD,cE,cB,cF,cO⟩
 case false =>
  have RR:=I (show cT (O.mk x0 x1 x2 x3 x4 x5 x6 x7 x8 x9 F G Z) (.mk 6 tag J [.mk 19 cD cE cB cF cO,.mk 19 dw dx dy dz dA,.mk 1 gh iI iJ iK iL] keys)=false by rw[eT];(try simp only[O.cy,O.cu,cJ,cL,cP]);simp only[R.v];rw[fR];simp)
  have cW:((keys.length:Int)==0)=true:=aK
  have cX:((keys.length:Int) != 0)=false:=aL
  have jw:decide (1<=tag)=true:=ay aF
  have km:decide (tag<1)=false:=ax aF
  have kn:decide (0<tag)=true:=ay aF
  have Cm:decide (0<=gh)=true:=ay aF
  have kG:=I fR
  clear cU FW fR
  go_enter func105,ntmps105
  (go_wp2_with (fail))
  go_quiet (fail)
  go_upto_region 20 with (fail)
  simp only[List.append]
  (go_wp2_with (first | (go_at_call 45;(with_reducible refine (gq (O.mk x0 x1 x2 x3 x4 x5 x6 x7 x8 x9 F G Z) ⟨19,cD,cE,cB,cF,cO⟩ S q _ (cv.de bl HS.out) ⟨eN,fi,eO,Bi.out,gD,gE⟩).mono ?_);rintro e yP ⟨rfl,er⟩;rw[kG.out];(have nH:=er.sz;obtain⟨iU,iV,iW,iX⟩:=er.lay (w.heap.size);obtain⟨iY,iZ,ja,jb⟩:=er.lay (q);obtain⟨rr,ru,rv,ry⟩:=er.lay (b1)))))
  all_goals
   go_returns
   exact⟨by rw[RR.out];first | done | rfl,bl⟩
 case true =>
 cases iT:eE (O.mk x0 x1 x2 x3 x4 x5 x6 x7 x8 x9 F G Z) ⟨19,dw,dx,dy,dz,dA⟩
 case false =>
  have RR:=I (show cT (O.mk x0 x1 x2 x3 x4 x5 x6 x7 x8 x9 F G Z) (.mk 6 tag J [.mk 19 cD cE cB cF cO,.mk 19 dw dx dy dz dA,.mk 1 gh iI iJ iK iL] keys)=false by rw[eT];(try simp only[O.cy,O.cu,cJ,cL,cP]);simp only[R.v];rw[iT];simp)
  have cW:((keys.length:Int)==0)=true:=aK
  have cX:((keys.length:Int) != 0)=false:=aL
  have jw:decide (1<=tag)=true:=ay aF
  have km:decide (tag<1)=false:=ax aF
  have kn:decide (0<tag)=true:=ay aF
  have Cm:decide (0<=gh)=true:=ay aF
  have kG:=I fR
  have oJ:=I iT
  clear cU FW fR iT
  go_enter func105,ntmps105
  (go_wp2_with (fail))
  go_quiet (fail)
  go_upto_region 20 with (fail)
  simp only[List.append]
  (go_wp2_with (first | (go_at_call 45;(with_reducible refine (gq (O.mk x0 x1 x2 x3 x4 x5 x6 x7 x8 x9 F G Z) ⟨19,cD,cE,cB,cF,cO⟩ S q _ (cv.de bl HS.out) ⟨eN,fi,eO,Bi.out,gD,gE⟩).mono ?_);rintro e yP ⟨rfl,er⟩;rw[kG.out];(have nH:=er.sz;obtain⟨iU,iV,iW,iX⟩:=er.lay (w.heap.size);obtain⟨iY,iZ,ja,jb⟩:=er.lay (q);obtain⟨rr,ru,rv,ry⟩:=er.lay (b1))) | (go_at_call 45;(with_reducible refine (gq (O.mk x0 x1 x2 x3 x4 x5 x6 x7 x8 x9 F G Z) ⟨19,dw,dx,dy,dz,dA⟩ S q _ (cv.de bl HS.out) ⟨kv,kz,kA,Ed.out,kD,kE⟩).mono ?_);rintro e Ug ⟨rfl,jI⟩;rw[oJ.out];(have Di:=jI.sz;obtain⟨rz,rA,rB,rC⟩:=jI.lay (w.heap.size);obtain⟨rD,rE,rF,rG⟩:=jI.lay (q);obtain⟨zh,zi,zj,zk⟩:=jI.lay (b1)))))
  all_goals
   go_returns
   exact⟨by rw[RR.out];first | done | rfl,bl⟩
 case true =>
 cases tc:eE (O.mk x0 x1 x2 x3 x4 x5 x6 x7 x8 x9 F G Z) ⟨1,gh,iI,iJ,iK,iL⟩
 case false =>
  have RR:=I (show cT (O.mk x0 x1 x2 x3 x4 x5 x6 x7 x8 x9 F G Z) (.mk 6 tag J [.mk 19 cD cE cB cF cO,.mk 19 dw dx dy dz dA,.mk 1 gh iI iJ iK iL] keys)=false by rw[eT];(try simp only[O.cy,O.cu,cJ,cL,cP]);simp only[R.v];rw[tc];simp)
  exact ag2
 case true =>
 have RR:=I (show cT (O.mk x0 x1 x2 x3 x4 x5 x6 x7 x8 x9 F G Z) (.mk 6 tag J [.mk 19 cD cE cB cF cO,.mk 19 dw dx dy dz dA,.mk 1 gh iI iJ iK iL] keys)=true by rw[eT];(try simp only[O.cy,O.cu,cJ,cL,cP]);(try simp only[R.v]);simp only[Bool.and_eq_true,decide_eq_true_eq];(repeat' apply And.intro) <;> first | assumption | trivial | exact ay ⟨by omega,by omega⟩ | exact ay aF | rfl | omega)
 exact ag2
--%quiet
theorem NP (tag J:Int) (its keys:List R) (s:O):lO 105 s (.mk 8 tag J its keys):=by
 intro S S' q w vs hs hv
 have HS:=I hs
 obtain⟨Ai,ci,Ak,ck,rfl,_,nc,jM,gk,gm⟩:=cr.gK hv
 have lL:=I gk
 have rR:=I gm
 have mn:=gk.1
 have mU:=gk.2.1
 have lI:=gm.1
 have nf:=gm.2.1
 simp only[ar]at mn lI
 unfold maxLen at mU nf
 clear gk gm hv
 obtain⟨x0,x1,x2,x3,x4,x5,x6,x7,x8,x9,F,G,Z⟩:=s
 have js:=I hs
 obtain⟨A0,c0,A1,c1,A2,c2,A3,c3,A6,c6,A7,c7,A8,c8,hq,e0,e1,e2,e3,e4,e5,e6,e7,e8,e9,iE,jc,jd,fj,fm,fa,fb,ew,eL,eK,eV,eX,eY,fp,fq,fc,ff,g4,g5,g10,g11,g12,-,qv,-,-,-,-,-⟩:=cv.j8 hs
 clear hs
 have ga:¬q=w.heap.size:=aF
 have dX:U w w:=U.refl w
 by_cases rZ:¬J=0
 case pos =>
  have RR:=I (show cT (O.mk x0 x1 x2 x3 x4 x5 x6 x7 x8 x9 F G Z) (.mk 8 tag J its keys)=false by rw[jE];show (decide (J=0)&&_)=false;rw[ax rZ];rfl)
  have qy:(J != 0)=true:=aH
  exact tz
 case neg =>
 have qy:(J != 0)=false:=aH
 by_cases hlen:its.length=2
 case neg =>
  have kJ:=hlen
  by_cases dn:tag=0
  case neg =>
   have RR:=I (show cT (O.mk x0 x1 x2 x3 x4 x5 x6 x7 x8 x9 F G Z) (.mk 8 tag J its keys)=false by rw[jE];(try simp only[O.cy,O.cu,cJ,cL,cP]);simp[dn])
   exact zH
  case pos =>
  by_cases cU:keys.length=0
  case neg =>
   have RR:=I (show cT (O.mk x0 x1 x2 x3 x4 x5 x6 x7 x8 x9 F G Z) (.mk 8 tag J its keys)=false by rw[jE];(try simp only[O.cy,O.cu,cJ,cL,cP]);simp[cU])
   exact Ec
  case pos =>
  have RR:=I (show cT (O.mk x0 x1 x2 x3 x4 x5 x6 x7 x8 x9 F G Z) (.mk 8 tag J its keys)=false by rw[jE];(try simp only[O.cy,O.cu,cJ,cL,cP]);simp[kJ])
  exact YG
 case pos =>
 obtain⟨a,b,rfl⟩:∃a b,its=[a,b]:=by
  match its,hlen with
  | [a,b],_=>exact⟨a,b,rfl⟩
 simp only[aD,aE,Nat.reduceAdd]at mn
 clear hlen
 (obtain⟨b1,o1,cz,cD,cE,cB,cF,cO,gb,dS,gy,gF,kP,eN,fi,eO,fT,gD,gE,fD,fE,fG,fK,fN,jy⟩:=R.e0 lL.out aJ dX;subst gb)
 (obtain⟨b2,o2,da,dw,dx,dy,dz,dA,mO,mu,nn,od,vz,kv,kz,kA,iw,kD,kE,jS,jT,jU,jV,jW,j1⟩:=R.e1 lL.out aJ dX;injection Option.some.inj mO with qb2 tm _;subst qb2 tm)
 have iH:¬b1=w.heap.size:=aF
 obtain rfl:a=.mk cz cD cE cB cF cO:=gF.out
 have Bi:=I fT
 unfold maxLen at fT
 obtain rfl:b=.mk da dw dx dy dz dA:=od.out
 have Ed:=I iw
 unfold maxLen at iw
 by_cases dn:tag=0
 case neg =>
  have RR:=I (show cT (O.mk x0 x1 x2 x3 x4 x5 x6 x7 x8 x9 F G Z) (.mk 8 tag J [.mk cz cD cE cB cF cO,.mk da dw dx dy dz dA] keys)=false by rw[jE];(try simp only[O.cy,O.cu,cJ,cL,cP]);simp[dn])
  exact zH
 case pos =>
 by_cases cU:keys.length=0
 case neg =>
  have RR:=I (show cT (O.mk x0 x1 x2 x3 x4 x5 x6 x7 x8 x9 F G Z) (.mk 8 tag J [.mk cz cD cE cB cF cO,.mk da dw dx dy dz dA] keys)=false by rw[jE];(try simp only[O.cy,O.cu,cJ,cL,cP]);simp[cU])
  exact Ec
 case pos =>
 by_cases kF:cz=5
 case neg =>
  have RR:=I (show cT (O.mk x0 x1 x2 x3 x4 x5 x6 x7 x8 x9 F G Z) (.mk 8 tag J [.mk cz cD cE cB cF cO,.mk da dw dx dy dz dA] keys)=false by rw[jE];(try simp only[O.cy,O.cu,cJ,cL,cP]);simp[R.v,kF])
  have dQ:(tag==0)=true:=aK
  have dR:(tag != 0)=false:=aL
  have cW:((keys.length:Int)==0)=true:=aK
  have cX:((keys.length:Int) != 0)=false:=aL
  have Rz:(cz==5)=false:=aN
  have RA:(cz != 5)=true:=aM
  clear dn cU kF
  exact tz
 case pos =>
 subst kF
 cases fR:eE (O.mk x0 x1 x2 x3 x4 x5 x6 x7 x8 x9 F G Z) ⟨5,cD,cE,cB,cF,cO⟩
 case false =>
  have RR:=I (show cT (O.mk x0 x1 x2 x3 x4 x5 x6 x7 x8 x9 F G Z) (.mk 8 tag J [.mk 5 cD cE cB cF cO,.mk da dw dx dy dz dA] keys)=false by rw[jE];(try simp only[O.cy,O.cu,cJ,cL,cP]);simp only[R.v];rw[fR];simp)
  have dQ:(tag==0)=true:=aK
  have dR:(tag != 0)=false:=aL
  have cW:((keys.length:Int)==0)=true:=aK
  have cX:((keys.length:Int) != 0)=false:=aL
  have kG:=I fR
  clear dn cU fR
  go_enter func105,ntmps105
  have eF:=True.intro
  repeat (any_goals ((first | clear eF | go_quiet (fail));(try go_wp2_with (first | (go_at_call 45;(with_reducible refine (gq (O.mk x0 x1 x2 x3 x4 x5 x6 x7 x8 x9 F G Z) ⟨5,cD,cE,cB,cF,cO⟩ S q _ (cv.de bl HS.out) ⟨eN,fi,eO,Bi.out,gD,gE⟩).mono ?_);rintro e yP ⟨rfl,er⟩;rw[kG.out];(have nH:=er.sz;obtain⟨iU,iV,iW,iX⟩:=er.lay (w.heap.size);obtain⟨iY,iZ,ja,jb⟩:=er.lay (q);obtain⟨rr,ru,rv,ry⟩:=er.lay (b1)))))))
  all_goals
   go_returns
   exact⟨by rw[RR.out];first | done | rfl,bl⟩
 case true =>
 cases iT:gn (O.mk x0 x1 x2 x3 x4 x5 x6 x7 x8 x9 F G Z) ⟨da,dw,dx,dy,dz,dA⟩
 case false =>
  have RR:=I (show cT (O.mk x0 x1 x2 x3 x4 x5 x6 x7 x8 x9 F G Z) (.mk 8 tag J [.mk 5 cD cE cB cF cO,.mk da dw dx dy dz dA] keys)=false by rw[jE];(try simp only[O.cy,O.cu,cJ,cL,cP]);simp only[R.v];rw[iT];simp)
  exact ag3
 case true =>
 have RR:=I (show cT (O.mk x0 x1 x2 x3 x4 x5 x6 x7 x8 x9 F G Z) (.mk 8 tag J [.mk 5 cD cE cB cF cO,.mk da dw dx dy dz dA] keys)=true by rw[jE];(try simp only[O.cy,O.cu,cJ,cL,cP]);(try simp only[R.v]);simp only[Bool.and_eq_true,decide_eq_true_eq];(repeat' apply And.intro) <;> first | assumption | trivial | exact ay ⟨by omega,by omega⟩ | exact ay aF | rfl | omega)
 exact ag3
theorem J2 (tag J:Int) (its keys:List R) (s:O) (h9:¬(J=0/\tag=0/\keys.length=0/\its.length=2/\(j0 its 0).k=2/\(j0 its 1).k=1)):lO 105 s (.mk 9 tag J its keys):=by
 intro S S' q w vs hs hv
 have HS:=I hs
 obtain⟨Ai,ci,Ak,ck,rfl,_,nc,jM,gk,gm⟩:=cr.gK hv
 have lL:=I gk
 have rR:=I gm
 have mn:=gk.1
 have mU:=gk.2.1
 have lI:=gm.1
 have nf:=gm.2.1
 simp only[ar]at mn lI
 unfold maxLen at mU nf
 clear gk gm hv
 obtain⟨x0,x1,x2,x3,x4,x5,x6,x7,x8,x9,F,G,Z⟩:=s
 have js:=I hs
 obtain⟨A0,c0,A1,c1,A2,c2,A3,c3,A6,c6,A7,c7,A8,c8,hq,e0,e1,e2,e3,e4,e5,e6,e7,e8,e9,iE,jc,jd,fj,fm,fa,fb,ew,eL,eK,eV,eX,eY,fp,fq,fc,ff,g4,g5,g10,g11,g12,-,qv,-,-,-,-,-⟩:=cv.j8 hs
 clear hs
 have ga:¬q=w.heap.size:=aF
 have dX:U w w:=U.refl w
 by_cases rZ:¬J=0
 case pos =>
  have RR:=I (show cT (O.mk x0 x1 x2 x3 x4 x5 x6 x7 x8 x9 F G Z) (.mk 9 tag J its keys)=false by rw[iD];show (decide (J=0)&&_)=false;rw[ax rZ];rfl)
  have qy:(J != 0)=true:=aH
  exact tz
 case neg =>
 have qy:(J != 0)=false:=aH
 by_cases hlen:its.length=2
 case neg =>
  have kJ:=hlen
  by_cases dn:tag=0
  case neg =>
   have RR:=I (show cT (O.mk x0 x1 x2 x3 x4 x5 x6 x7 x8 x9 F G Z) (.mk 9 tag J its keys)=false by rw[iD];(try simp only[O.cy,O.cu,cJ,cL,cP]);simp[dn])
   exact zH
  case pos =>
  by_cases cU:keys.length=0
  case neg =>
   have RR:=I (show cT (O.mk x0 x1 x2 x3 x4 x5 x6 x7 x8 x9 F G Z) (.mk 9 tag J its keys)=false by rw[iD];(try simp only[O.cy,O.cu,cJ,cL,cP]);simp[cU])
   exact Ec
  case pos =>
  have RR:=I (show cT (O.mk x0 x1 x2 x3 x4 x5 x6 x7 x8 x9 F G Z) (.mk 9 tag J its keys)=false by rw[iD];(try simp only[O.cy,O.cu,cJ,cL,cP]);simp[kJ])
  exact YG
 case pos =>
 obtain⟨a,b,rfl⟩:∃a b,its=[a,b]:=by
  match its,hlen with
  | [a,b],_=>exact⟨a,b,rfl⟩
 simp only[aD,aE,Nat.reduceAdd]at mn
 clear hlen
 (obtain⟨b1,o1,cz,cD,cE,cB,cF,cO,gb,dS,gy,gF,kP,eN,fi,eO,fT,gD,gE,fD,fE,fG,fK,fN,jy⟩:=R.e0 lL.out aJ dX;subst gb)
 (obtain⟨b2,o2,da,dw,dx,dy,dz,dA,mO,mu,nn,od,vz,kv,kz,kA,iw,kD,kE,jS,jT,jU,jV,jW,j1⟩:=R.e1 lL.out aJ dX;injection Option.some.inj mO with qb2 tm _;subst qb2 tm)
 have iH:¬b1=w.heap.size:=aF
 obtain rfl:a=.mk cz cD cE cB cF cO:=gF.out
 have Bi:=I fT
 unfold maxLen at fT
 obtain rfl:b=.mk da dw dx dy dz dA:=od.out
 have Ed:=I iw
 unfold maxLen at iw
 by_cases dn:tag=0
 case neg =>
  have RR:=I (show cT (O.mk x0 x1 x2 x3 x4 x5 x6 x7 x8 x9 F G Z) (.mk 9 tag J [.mk cz cD cE cB cF cO,.mk da dw dx dy dz dA] keys)=false by rw[iD];(try simp only[O.cy,O.cu,cJ,cL,cP]);simp[dn])
  exact zH
 case pos =>
 by_cases cU:keys.length=0
 case neg =>
  have RR:=I (show cT (O.mk x0 x1 x2 x3 x4 x5 x6 x7 x8 x9 F G Z) (.mk 9 tag J [.mk cz cD cE cB cF cO,.mk da dw dx dy dz dA] keys)=false by rw[iD];(try simp only[O.cy,O.cu,cJ,cL,cP]);simp[cU])
  exact Ec
 case pos =>
 by_cases kF:cz=2
 case neg =>
  have RR:=I (show cT (O.mk x0 x1 x2 x3 x4 x5 x6 x7 x8 x9 F G Z) (.mk 9 tag J [.mk cz cD cE cB cF cO,.mk da dw dx dy dz dA] keys)=false by rw[iD];(try simp only[O.cy,O.cu,cJ,cL,cP]);simp[R.v,kF])
  have dQ:(tag==0)=true:=aK
  have dR:(tag != 0)=false:=aL
  have cW:((keys.length:Int)==0)=true:=aK
  have cX:((keys.length:Int) != 0)=false:=aL
  have Rz:(cz==2)=false:=aN
  have RA:(cz != 2)=true:=aM
  clear dn cU kF
  exact tz
 case pos =>
 subst kF
 by_cases nU:da=1
 case neg =>
  have RR:=I (show cT (O.mk x0 x1 x2 x3 x4 x5 x6 x7 x8 x9 F G Z) (.mk 9 tag J [.mk 2 cD cE cB cF cO,.mk da dw dx dy dz dA] keys)=false by rw[iD];(try simp only[O.cy,O.cu,cJ,cL,cP]);simp[R.v,nU])
  have dQ:(tag==0)=true:=aK
  have dR:(tag != 0)=false:=aL
  have cW:((keys.length:Int)==0)=true:=aK
  have cX:((keys.length:Int) != 0)=false:=aL
  have abG:(da==1)=false:=aN
  have abH:(da != 1)=true:=aM
  clear dn cU nU
  exact tz
 case pos =>
 subst nU
 exact absurd ⟨by omega,dn,cU,rfl,rfl,rfl⟩ h9
end Go.Proofs.YtjngkknbpfgdcaaGreatDoor
