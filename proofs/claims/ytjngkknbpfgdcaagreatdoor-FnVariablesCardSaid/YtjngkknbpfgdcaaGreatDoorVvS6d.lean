import Derived.Test.YtjngkknbpfgdcaaGreatDoorVvS5
set_option linter.unusedVariables false
set_option linter.unusedSimpArgs false
set_option maxRecDepth 100000
set_option maxHeartbeats 8000000
namespace Go.Proofs.YtjngkknbpfgdcaaGreatDoor
open Go.RowKit Go.Proofs.Tryz
theorem Ho (tag J:Int) (u1 u2:Int) (u3:cx) (u4 u5 v1 v2:Int) (v3:cx) (v4 v5:Int) (keys:List R) (s:O) (jM:J=0) (dn:tag=0) (cU:keys.length=0) (fR:eE s ⟨2,u1,u2,u3,u4,u5⟩=false):lO 105 s (.mk 9 tag J [.mk 2 u1 u2 u3 u4 u5,.mk 1 v1 v2 v3 v4 v5] keys):=by
 intro S S' q w vs hs hv
 have HS:=I hs
 obtain⟨Ai,ci,Ak,ck,rfl,_,nc,Cn,gk,gm⟩:=cr.gK hv
 have lL:=I gk
 have rR:=I gm
 have mn:=gk.1
 have mU:=gk.2.1
 have lI:=gm.1
 have nf:=gm.2.1
 simp only[ar,aD,aE,Nat.reduceAdd]at mn lI
 unfold maxLen at mU nf
 clear gk gm hv
 obtain⟨x0,x1,x2,x3,x4,x5,x6,x7,x8,x9,F,G,Z⟩:=s
 have js:=I hs
 obtain⟨A0,c0,A1,c1,A2,c2,A3,c3,A6,c6,A7,c7,A8,c8,hq,e0,e1,e2,e3,e4,e5,e6,e7,e8,e9,iE,jc,jd,fj,fm,fa,fb,ew,eL,eK,eV,eX,eY,fp,fq,fc,ff,g4,g5,g10,g11,g12,-,qv,-,-,-,-,-⟩:=cv.j8 hs
 clear hs
 have ga:¬q=w.heap.size:=aF
 have dX:U w w:=U.refl w
 have qy:(J != 0)=false:=aL
 (obtain⟨b1,o1,cz,cD,cE,cB,cF,cO,gb,dS,gy,gF,kP,eN,fi,eO,fT,gD,gE,fD,fE,fG,fK,fN,jy⟩:=R.e0 lL.out aJ dX;subst gb)
 (obtain⟨b2,o2,da,dw,dx,dy,dz,dA,mO,mu,nn,od,vz,kv,kz,kA,iw,kD,kE,jS,jT,jU,jV,jW,j1⟩:=R.e1 lL.out aJ dX;injection Option.some.inj mO with qb2 tm _;subst qb2 tm)
 obtain⟨rfl,rfl,rfl,rfl,rfl,rfl⟩:=R.mk.inj (show R.mk 2 u1 u2 u3 u4 u5=.mk cz cD cE cB cF cO from gF.out)
 have Bi:=I fT
 unfold maxLen at fT
 obtain⟨rfl,rfl,rfl,rfl,rfl,rfl⟩:=R.mk.inj (show R.mk 1 v1 v2 v3 v4 v5=.mk da dw dx dy dz dA from od.out)
 have Ed:=I iw
 unfold maxLen at iw
 have iH:¬b1=w.heap.size:=aF
 have RR:=I (show cT (O.mk x0 x1 x2 x3 x4 x5 x6 x7 x8 x9 F G Z) (.mk 9 tag J [.mk 2 u1 u2 u3 u4 u5,.mk 1 v1 v2 v3 v4 v5] keys)=false by rw[iD];simp only[cJ,cL,R.v];rw[fR];simp)
 have dQ:(tag==0)=true:=aK
 have dR:(tag != 0)=false:=aL
 have cW:((keys.length:Int)==0)=true:=aK
 have cX:((keys.length:Int) != 0)=false:=aL
 clear dn cU jM
 have kG:=I fR
 clear fR
 go_enter func105,ntmps105
 (go_wp2_with (fail))
 repeat (any_goals (go_quiet (fail);(try (go_wp2_with (fail)))))
 refine wp_region_held_drew (S:=fun w'=>w'.cell? ⟨w.heap.size,0,none⟩=some (.int .i64 9)/\w'.cell? ⟨w.heap.size,3,none⟩=some (.slice (some ⟨b1,o1,none⟩) 2 ci)/\w'.cell? ⟨b1,o1,none⟩=some (.int .i64 2)/\w'.cell? ⟨b1,o1+1,none⟩=some (.int .i64 u1)/\w'.cell? ⟨b1,o1+2,none⟩=some (.int .i64 u2)/\w'.cell? ⟨b1,o1+3,none⟩=some (.string u3)/\w'.cell? ⟨b1,o1+4,none⟩=some (.int .i64 u4)/\w'.cell? ⟨b1,o1+5,none⟩=some (.int .i64 u5)/\w'.cell? ⟨b1,o1+6,none⟩=some (.int .i64 1)/\w'.cell? ⟨b1,o1+7,none⟩=some (.int .i64 v1)/\w'.cell? ⟨b1,o1+8,none⟩=some (.int .i64 v2)/\w'.cell? ⟨b1,o1+9,none⟩=some (.string v3)/\w'.cell? ⟨b1,o1+10,none⟩=some (.int .i64 v4)/\w'.cell? ⟨b1,o1+11,none⟩=some (.int .i64 v5)) aG ?_ (fun iR=>?_)
 ·
  exact⟨jF,jF,(U.box (W:=w) bl b1 dS _).trans fD,(U.box (W:=w) bl b1 dS _).trans fE,(U.box (W:=w) bl b1 dS _).trans fG,(U.box (W:=w) bl b1 dS _).trans fK,(U.box (W:=w) bl b1 dS _).trans fN,(U.box (W:=w) bl b1 dS _).trans jy,(U.box (W:=w) bl b1 dS _).trans jS,(U.box (W:=w) bl b1 dS _).trans jT,(U.box (W:=w) bl b1 dS _).trans jU,(U.box (W:=w) bl b1 dS _).trans jV,(U.box (W:=w) bl b1 dS _).trans jW,(U.box (W:=w) bl b1 dS _).trans j1⟩
 refine ev 0 ?_
 refine ev 1 ?_
 refine ev 2 ?_
 refine ev 3 ?_
 refine ev 4 ?_
 refine ev 5 ?_
 refine ev 6 ?_
 refine ev 7 ?_
 refine ev 8 ?_
 refine ev 9 ?_
 refine ev 10 ?_
 refine ev 11 ?_
 refine ev 12 ?_
 refine ev 13 ?_
 refine ev 14 ?_
 refine ev 15 ?_
 refine ev 16 ?_
 refine ev 17 ?_
 refine ev 18 ?_
 refine ev 19 ?_
 refine ev 20 ?_
 refine ev 21 ?_
 refine ev 22 ?_
 refine ev 23 ?_
 refine ev 24 ?_
 refine ev 25 ?_
 refine wpAnyH_ready (rs:=[26]) aG aJ ?_
 refine AllReadyH.cons (o:=_) rfl (fun K hK=>?_) AllReadyH.nil
 go_simp
 clear iR
 (go_at_call 45;(with_reducible refine (gq (O.mk x0 x1 x2 x3 x4 x5 x6 x7 x8 x9 F G Z) ⟨2,u1,u2,u3,u4,u5⟩ S q _ (cv.de bl HS.out) ⟨eN,fi,eO,Bi.out,gD,gE⟩).mono ?_);rintro e yP ⟨rfl,er⟩;rw[kG.out];(have nH:=er.sz;obtain⟨iU,iV,iW,iX⟩:=er.lay (w.heap.size);obtain⟨iY,iZ,ja,jb⟩:=er.lay (q);obtain⟨rr,ru,rv,ry⟩:=er.lay (b1)))
 refine hK.out _ _ ?_ (fun iR=>?_)
 ·
  exact⟨jF,jF,(U.box (W:=w) bl b1 dS _).trans fD,(U.box (W:=w) bl b1 dS _).trans fE,(U.box (W:=w) bl b1 dS _).trans fG,(U.box (W:=w) bl b1 dS _).trans fK,(U.box (W:=w) bl b1 dS _).trans fN,(U.box (W:=w) bl b1 dS _).trans jy,(U.box (W:=w) bl b1 dS _).trans jS,(U.box (W:=w) bl b1 dS _).trans jT,(U.box (W:=w) bl b1 dS _).trans jU,(U.box (W:=w) bl b1 dS _).trans jV,(U.box (W:=w) bl b1 dS _).trans jW,(U.box (W:=w) bl b1 dS _).trans j1⟩
 clear hK K
 (try simp only[Act.put,aa,ab,ae,af,ag,aj])
 refine ev 27 ?_
 refine ev 28 ?_
 refine sO 29 ?_
 refine sO 30 ?_
 refine sO 31 ?_
 refine sO 32 ?_
 refine sO 33 ?_
 refine sO 34 ?_
 exact YH
theorem Hp (tag J:Int) (u1 u2:Int) (u3:cx) (u4 u5 v1 v2:Int) (v3:cx) (v4 v5:Int) (keys:List R) (s:O) (jM:J=0) (dn:tag=0) (cU:keys.length=0) (fR:eE s ⟨2,u1,u2,u3,u4,u5⟩=true) (iT:eE s ⟨1,v1,v2,v3,v4,v5⟩=false):lO 105 s (.mk 9 tag J [.mk 2 u1 u2 u3 u4 u5,.mk 1 v1 v2 v3 v4 v5] keys):=by
 intro S S' q w vs hs hv
 have HS:=I hs
 obtain⟨Ai,ci,Ak,ck,rfl,_,nc,Cn,gk,gm⟩:=cr.gK hv
 have lL:=I gk
 have rR:=I gm
 have mn:=gk.1
 have mU:=gk.2.1
 have lI:=gm.1
 have nf:=gm.2.1
 simp only[ar,aD,aE,Nat.reduceAdd]at mn lI
 unfold maxLen at mU nf
 clear gk gm hv
 obtain⟨x0,x1,x2,x3,x4,x5,x6,x7,x8,x9,F,G,Z⟩:=s
 have js:=I hs
 obtain⟨A0,c0,A1,c1,A2,c2,A3,c3,A6,c6,A7,c7,A8,c8,hq,e0,e1,e2,e3,e4,e5,e6,e7,e8,e9,iE,jc,jd,fj,fm,fa,fb,ew,eL,eK,eV,eX,eY,fp,fq,fc,ff,g4,g5,g10,g11,g12,-,qv,-,-,-,-,-⟩:=cv.j8 hs
 clear hs
 have ga:¬q=w.heap.size:=aF
 have dX:U w w:=U.refl w
 have qy:(J != 0)=false:=aL
 (obtain⟨b1,o1,cz,cD,cE,cB,cF,cO,gb,dS,gy,gF,kP,eN,fi,eO,fT,gD,gE,fD,fE,fG,fK,fN,jy⟩:=R.e0 lL.out aJ dX;subst gb)
 (obtain⟨b2,o2,da,dw,dx,dy,dz,dA,mO,mu,nn,od,vz,kv,kz,kA,iw,kD,kE,jS,jT,jU,jV,jW,j1⟩:=R.e1 lL.out aJ dX;injection Option.some.inj mO with qb2 tm _;subst qb2 tm)
 obtain⟨rfl,rfl,rfl,rfl,rfl,rfl⟩:=R.mk.inj (show R.mk 2 u1 u2 u3 u4 u5=.mk cz cD cE cB cF cO from gF.out)
 have Bi:=I fT
 unfold maxLen at fT
 obtain⟨rfl,rfl,rfl,rfl,rfl,rfl⟩:=R.mk.inj (show R.mk 1 v1 v2 v3 v4 v5=.mk da dw dx dy dz dA from od.out)
 have Ed:=I iw
 unfold maxLen at iw
 have iH:¬b1=w.heap.size:=aF
 have RR:=I (show cT (O.mk x0 x1 x2 x3 x4 x5 x6 x7 x8 x9 F G Z) (.mk 9 tag J [.mk 2 u1 u2 u3 u4 u5,.mk 1 v1 v2 v3 v4 v5] keys)=false by rw[iD];simp only[cJ,cL,R.v];rw[iT];simp)
 have dQ:(tag==0)=true:=aK
 have dR:(tag != 0)=false:=aL
 have cW:((keys.length:Int)==0)=true:=aK
 have cX:((keys.length:Int) != 0)=false:=aL
 clear dn cU jM
 have kG:=I fR
 clear fR
 have oJ:=I iT
 clear iT
 go_enter func105,ntmps105
 (go_wp2_with (fail))
 repeat (any_goals (go_quiet (fail);(try (go_wp2_with (fail)))))
 refine wp_region_held_drew (S:=fun w'=>w'.cell? ⟨w.heap.size,0,none⟩=some (.int .i64 9)/\w'.cell? ⟨w.heap.size,3,none⟩=some (.slice (some ⟨b1,o1,none⟩) 2 ci)/\w'.cell? ⟨b1,o1,none⟩=some (.int .i64 2)/\w'.cell? ⟨b1,o1+1,none⟩=some (.int .i64 u1)/\w'.cell? ⟨b1,o1+2,none⟩=some (.int .i64 u2)/\w'.cell? ⟨b1,o1+3,none⟩=some (.string u3)/\w'.cell? ⟨b1,o1+4,none⟩=some (.int .i64 u4)/\w'.cell? ⟨b1,o1+5,none⟩=some (.int .i64 u5)/\w'.cell? ⟨b1,o1+6,none⟩=some (.int .i64 1)/\w'.cell? ⟨b1,o1+7,none⟩=some (.int .i64 v1)/\w'.cell? ⟨b1,o1+8,none⟩=some (.int .i64 v2)/\w'.cell? ⟨b1,o1+9,none⟩=some (.string v3)/\w'.cell? ⟨b1,o1+10,none⟩=some (.int .i64 v4)/\w'.cell? ⟨b1,o1+11,none⟩=some (.int .i64 v5)) aG ?_ (fun iR=>?_)
 ·
  exact⟨jF,jF,(U.box (W:=w) bl b1 dS _).trans fD,(U.box (W:=w) bl b1 dS _).trans fE,(U.box (W:=w) bl b1 dS _).trans fG,(U.box (W:=w) bl b1 dS _).trans fK,(U.box (W:=w) bl b1 dS _).trans fN,(U.box (W:=w) bl b1 dS _).trans jy,(U.box (W:=w) bl b1 dS _).trans jS,(U.box (W:=w) bl b1 dS _).trans jT,(U.box (W:=w) bl b1 dS _).trans jU,(U.box (W:=w) bl b1 dS _).trans jV,(U.box (W:=w) bl b1 dS _).trans jW,(U.box (W:=w) bl b1 dS _).trans j1⟩
 refine ev 0 ?_
 refine ev 1 ?_
 refine ev 2 ?_
 refine ev 3 ?_
 refine ev 4 ?_
 refine ev 5 ?_
 refine ev 6 ?_
 refine ev 7 ?_
 refine ev 8 ?_
 refine ev 9 ?_
 refine ev 10 ?_
 refine ev 11 ?_
 refine ev 12 ?_
 refine ev 13 ?_
 refine ev 14 ?_
 refine ev 15 ?_
 refine ev 16 ?_
 refine ev 17 ?_
 refine ev 18 ?_
 refine ev 19 ?_
 refine ev 20 ?_
 refine ev 21 ?_
 refine ev 22 ?_
 refine ev 23 ?_
 refine ev 24 ?_
 refine ev 25 ?_
 refine wpAnyH_ready (rs:=[26]) aG aJ ?_
 refine AllReadyH.cons (o:=_) rfl (fun K hK=>?_) AllReadyH.nil
 go_simp
 clear iR
 (go_at_call 45;(with_reducible refine (gq (O.mk x0 x1 x2 x3 x4 x5 x6 x7 x8 x9 F G Z) ⟨2,u1,u2,u3,u4,u5⟩ S q _ (cv.de bl HS.out) ⟨eN,fi,eO,Bi.out,gD,gE⟩).mono ?_);rintro e yP ⟨rfl,er⟩;rw[kG.out];(have nH:=er.sz;obtain⟨iU,iV,iW,iX⟩:=er.lay (w.heap.size);obtain⟨iY,iZ,ja,jb⟩:=er.lay (q);obtain⟨rr,ru,rv,ry⟩:=er.lay (b1)))
 refine hK.out _ _ ?_ (fun iR=>?_)
 ·
  exact⟨jF,jF,(U.box (W:=w) bl b1 dS _).trans fD,(U.box (W:=w) bl b1 dS _).trans fE,(U.box (W:=w) bl b1 dS _).trans fG,(U.box (W:=w) bl b1 dS _).trans fK,(U.box (W:=w) bl b1 dS _).trans fN,(U.box (W:=w) bl b1 dS _).trans jy,(U.box (W:=w) bl b1 dS _).trans jS,(U.box (W:=w) bl b1 dS _).trans jT,(U.box (W:=w) bl b1 dS _).trans jU,(U.box (W:=w) bl b1 dS _).trans jV,(U.box (W:=w) bl b1 dS _).trans jW,(U.box (W:=w) bl b1 dS _).trans j1⟩
 clear hK K
 (try simp only[Act.put,aa,ab,ae,af,ag,aj])
 refine ev 27 ?_
 refine ev 28 ?_
 refine ev 29 ?_
 refine ev 30 ?_
 refine ev 31 ?_
 refine ev 32 ?_
 refine ev 33 ?_
 refine wpAnyH_ready (rs:=[34]) aG aJ ?_
 refine AllReadyH.cons (o:=_) rfl (fun K hK=>?_) AllReadyH.nil
 go_simp
 clear iR
 (go_at_call 45;(with_reducible refine (gq (O.mk x0 x1 x2 x3 x4 x5 x6 x7 x8 x9 F G Z) ⟨1,v1,v2,v3,v4,v5⟩ S q _ (cv.de bl HS.out) ⟨kv,kz,kA,Ed.out,kD,kE⟩).mono ?_);rintro e Ug ⟨rfl,jI⟩;rw[oJ.out];(have Di:=jI.sz;obtain⟨rz,rA,rB,rC⟩:=jI.lay (w.heap.size);obtain⟨rD,rE,rF,rG⟩:=jI.lay (q);obtain⟨zh,zi,zj,zk⟩:=jI.lay (b1)))
 refine hK.out _ _ ?_ (fun iR=>?_)
 ·
  exact⟨jF,jF,(U.box (W:=w) bl b1 dS _).trans fD,(U.box (W:=w) bl b1 dS _).trans fE,(U.box (W:=w) bl b1 dS _).trans fG,(U.box (W:=w) bl b1 dS _).trans fK,(U.box (W:=w) bl b1 dS _).trans fN,(U.box (W:=w) bl b1 dS _).trans jy,(U.box (W:=w) bl b1 dS _).trans jS,(U.box (W:=w) bl b1 dS _).trans jT,(U.box (W:=w) bl b1 dS _).trans jU,(U.box (W:=w) bl b1 dS _).trans jV,(U.box (W:=w) bl b1 dS _).trans jW,(U.box (W:=w) bl b1 dS _).trans j1⟩
 clear hK K
 (try simp only[Act.put,aa,ab,ae,af,ag,aj])
 exact YH
end Go.Proofs.YtjngkknbpfgdcaaGreatDoor
