import Derived.Test.YtjngkknbpfgdcaaGreatDoorVvS5bz
set_option linter.unusedVariables false
set_option linter.unusedSimpArgs false
set_option maxRecDepth 100000
set_option maxHeartbeats 8000000
namespace Go.Proofs.YtjngkknbpfgdcaaGreatDoor
open Go.RowKit Go.Proofs.Tryz
theorem Hu (tag J:Int) (u1 u2:Int) (u3:cx) (u4 u5 v1 v2:Int) (v3:cx) (v4 v5:Int) (keys:List R) (s:O) (jM:J=0) (bt bk:Bool) (We:(tag==0)=bt) (Wf:((keys.length:Int)==0)=bk) (mR:fS s [.mk 2 u1 u2 u3 u4 u5,.mk 1 v1 v2 v3 v4 v5]=false):lO 41 s (.mk 9 tag J [.mk 2 u1 u2 u3 u4 u5,.mk 1 v1 v2 v3 v4 v5] keys):=by
 intro S S' q w vs hs hv
 have HS:=I hs
 obtain⟨Ai,ci,Ak,ck,rfl,_,nc,Cn,gk,gm⟩:=cr.gK hv
 have lL:=I gk
 have rR:=I gm
 have mn:=gk.1
 have mU:=gk.2.1
 have lI:=gm.1
 have nf:=gm.2.1
 simp only[ar,aD,aE,Nat.reduceAdd]at mn lI
 unfold maxLen at mU nf
 clear gk gm hv
 obtain⟨x0,x1,x2,x3,x4,x5,x6,x7,x8,x9,F,G,Z⟩:=s
 have js:=I hs
 obtain⟨A0,c0,A1,c1,A2,c2,A3,c3,A6,c6,A7,c7,A8,c8,hq,e0,e1,e2,e3,e4,e5,e6,e7,e8,e9,iE,jc,jd,fj,fm,fa,fb,ew,eL,eK,eV,eX,eY,fp,fq,fc,ff,g4,g5,g10,g11,g12,-,qv,-,-,-,-,-⟩:=cv.j8 hs
 clear hs
 have ga:¬q=w.heap.size:=aF
 have dX:U w w:=U.refl w
 have qy:(J != 0)=false:=aL
 (obtain⟨b1,o1,cz,cD,cE,cB,cF,cO,gb,dS,gy,gF,kP,eN,fi,eO,fT,gD,gE,fD,fE,fG,fK,fN,jy⟩:=R.e0 lL.out aJ dX;subst gb)
 (obtain⟨b2,o2,da,dw,dx,dy,dz,dA,mO,mu,nn,od,vz,kv,kz,kA,iw,kD,kE,jS,jT,jU,jV,jW,j1⟩:=R.e1 lL.out aJ dX;injection Option.some.inj mO with qb2 tm _;subst qb2 tm)
 obtain⟨rfl,rfl,rfl,rfl,rfl,rfl⟩:=R.mk.inj (show R.mk 2 u1 u2 u3 u4 u5=.mk cz cD cE cB cF cO from gF.out)
 have Bi:=I fT
 unfold maxLen at fT
 obtain⟨rfl,rfl,rfl,rfl,rfl,rfl⟩:=R.mk.inj (show R.mk 1 v1 v2 v3 v4 v5=.mk da dw dx dy dz dA from od.out)
 have Ed:=I iw
 unfold maxLen at iw
 have iH:¬b1=w.heap.size:=aF
 have RR:=I (show cT (O.mk x0 x1 x2 x3 x4 x5 x6 x7 x8 x9 F G Z) (.mk 9 tag J [.mk 2 u1 u2 u3 u4 u5,.mk 1 v1 v2 v3 v4 v5] keys)=false from NW _ _ _ _ _ _ rfl rfl mR)
 clear jM
 have Hv:=I mR
 clear mR
 have FX:=I (show ∀(wx:World),cv wx S q (O.mk x0 x1 x2 x3 x4 x5 x6 x7 x8 x9 F G Z)->Row wx S' 6 (some ⟨b1,o1,none⟩) ci (([.mk 2 u1 u2 u3 u4 u5,.mk 1 v1 v2 v3 v4 v5]:List R).map R.D)->Calls prog 40 #[.pointer (some ⟨q,0,none⟩),.slice (some ⟨b1,o1,none⟩) 2 ci] wx fun e w'=>e=.returned (.bool (fS (O.mk x0 x1 x2 x3 x4 x5 x6 x7 x8 x9 F G Z) [.mk 2 u1 u2 u3 u4 u5,.mk 1 v1 v2 v3 v4 v5]))/\U wx w' from fun wx h1 h2=>gY (O.mk x0 x1 x2 x3 x4 x5 x6 x7 x8 x9 F G Z) [.mk 2 u1 u2 u3 u4 u5,.mk 1 v1 v2 v3 v4 v5] S S' q wx _ ci h1 h2)
 go_enter func41,ntmps41
 (go_wp2_with (fail))
 repeat (any_goals (go_quiet (fail);(try (go_wp2_with (fail)))))
 refine wp_region_held_drew (S:=fun w'=>w'.cell? ⟨w.heap.size,0,none⟩=some (.int .i64 9)/\w'.cell? ⟨w.heap.size,3,none⟩=some (.slice (some ⟨b1,o1,none⟩) 2 ci)/\w'.cell? ⟨b1,o1,none⟩=some (.int .i64 2)/\w'.cell? ⟨b1,o1+1,none⟩=some (.int .i64 u1)/\w'.cell? ⟨b1,o1+2,none⟩=some (.int .i64 u2)/\w'.cell? ⟨b1,o1+3,none⟩=some (.string u3)/\w'.cell? ⟨b1,o1+4,none⟩=some (.int .i64 u4)/\w'.cell? ⟨b1,o1+5,none⟩=some (.int .i64 u5)/\w'.cell? ⟨b1,o1+6,none⟩=some (.int .i64 1)/\w'.cell? ⟨b1,o1+7,none⟩=some (.int .i64 v1)/\w'.cell? ⟨b1,o1+8,none⟩=some (.int .i64 v2)/\w'.cell? ⟨b1,o1+9,none⟩=some (.string v3)/\w'.cell? ⟨b1,o1+10,none⟩=some (.int .i64 v4)/\w'.cell? ⟨b1,o1+11,none⟩=some (.int .i64 v5)) aG ?_ (fun iR=>?_)
 ·
  exact⟨jF,jF,(U.box (W:=w) bl b1 dS _).trans fD,(U.box (W:=w) bl b1 dS _).trans fE,(U.box (W:=w) bl b1 dS _).trans fG,(U.box (W:=w) bl b1 dS _).trans fK,(U.box (W:=w) bl b1 dS _).trans fN,(U.box (W:=w) bl b1 dS _).trans jy,(U.box (W:=w) bl b1 dS _).trans jS,(U.box (W:=w) bl b1 dS _).trans jT,(U.box (W:=w) bl b1 dS _).trans jU,(U.box (W:=w) bl b1 dS _).trans jV,(U.box (W:=w) bl b1 dS _).trans jW,(U.box (W:=w) bl b1 dS _).trans j1⟩
 refine ev 0 ?_
 refine ev 1 ?_
 refine ev 2 ?_
 refine ev 3 ?_
 refine ev 4 ?_
 refine ev 5 ?_
 refine ev 6 ?_
 refine ev 7 ?_
 refine ev 8 ?_
 refine ev 9 ?_
 refine ev 10 ?_
 refine ev 11 ?_
 refine ev 12 ?_
 refine ev 13 ?_
 refine ev 14 ?_
 refine ev 15 ?_
 refine ev 16 ?_
 refine ev 17 ?_
 refine ev 18 ?_
 refine ev 19 ?_
 refine ev 20 ?_
 refine ev 21 ?_
 refine ev 22 ?_
 refine ev 23 ?_
 refine wpAnyH_ready (rs:=[24]) aG aJ ?_
 refine AllReadyH.cons (o:=_) rfl (fun K hK=>?_) AllReadyH.nil
 go_simp
 clear iR
 (go_at_call 40;(with_reducible refine (FX.out _ (cv.de bl HS.out) (Row.de bl lL.out)).mono ?_);rintro e Rw ⟨rfl,jt⟩;rw[Hv.out];(have Cc:=jt.sz;obtain⟨qb,qc,qd,qe⟩:=jt.lay (w.heap.size);obtain⟨qf,qg,qh,qi⟩:=jt.lay (q);obtain⟨Co,Cp,Cq,Cr⟩:=jt.lay (b1)))
 refine hK.out _ _ ?_ (fun iR=>?_)
 ·
  exact⟨jF,jF,(U.box (W:=w) bl b1 dS _).trans fD,(U.box (W:=w) bl b1 dS _).trans fE,(U.box (W:=w) bl b1 dS _).trans fG,(U.box (W:=w) bl b1 dS _).trans fK,(U.box (W:=w) bl b1 dS _).trans fN,(U.box (W:=w) bl b1 dS _).trans jy,(U.box (W:=w) bl b1 dS _).trans jS,(U.box (W:=w) bl b1 dS _).trans jT,(U.box (W:=w) bl b1 dS _).trans jU,(U.box (W:=w) bl b1 dS _).trans jV,(U.box (W:=w) bl b1 dS _).trans jW,(U.box (W:=w) bl b1 dS _).trans j1⟩
 clear hK K
 (try simp only[Act.put,aa,ab,ae,af,ag,aj])
 refine ev 25 ?_
 refine ev 26 ?_
 refine sO 27 ?_
 refine sO 28 ?_
 refine sO 29 ?_
 refine sO 30 ?_
 refine sO 31 ?_
 refine sO 32 ?_
 exact Y3
theorem Hw (tag J:Int) (u1 u2:Int) (u3:cx) (u4 u5 v1 v2:Int) (v3:cx) (v4 v5:Int) (keys:List R) (s:O) (jM:J=0) (bt bk:Bool) (We:(tag==0)=bt) (Wf:((keys.length:Int)==0)=bk) (mR:fS s [.mk 2 u1 u2 u3 u4 u5,.mk 1 v1 v2 v3 v4 v5]=true) (NX:¬1<=v1):lO 41 s (.mk 9 tag J [.mk 2 u1 u2 u3 u4 u5,.mk 1 v1 v2 v3 v4 v5] keys):=by
 intro S S' q w vs hs hv
 have HS:=I hs
 obtain⟨Ai,ci,Ak,ck,rfl,_,nc,Cn,gk,gm⟩:=cr.gK hv
 have lL:=I gk
 have rR:=I gm
 have mn:=gk.1
 have mU:=gk.2.1
 have lI:=gm.1
 have nf:=gm.2.1
 simp only[ar,aD,aE,Nat.reduceAdd]at mn lI
 unfold maxLen at mU nf
 clear gk gm hv
 obtain⟨x0,x1,x2,x3,x4,x5,x6,x7,x8,x9,F,G,Z⟩:=s
 have js:=I hs
 obtain⟨A0,c0,A1,c1,A2,c2,A3,c3,A6,c6,A7,c7,A8,c8,hq,e0,e1,e2,e3,e4,e5,e6,e7,e8,e9,iE,jc,jd,fj,fm,fa,fb,ew,eL,eK,eV,eX,eY,fp,fq,fc,ff,g4,g5,g10,g11,g12,-,qv,-,-,-,-,-⟩:=cv.j8 hs
 clear hs
 have ga:¬q=w.heap.size:=aF
 have dX:U w w:=U.refl w
 have qy:(J != 0)=false:=aL
 (obtain⟨b1,o1,cz,cD,cE,cB,cF,cO,gb,dS,gy,gF,kP,eN,fi,eO,fT,gD,gE,fD,fE,fG,fK,fN,jy⟩:=R.e0 lL.out aJ dX;subst gb)
 (obtain⟨b2,o2,da,dw,dx,dy,dz,dA,mO,mu,nn,od,vz,kv,kz,kA,iw,kD,kE,jS,jT,jU,jV,jW,j1⟩:=R.e1 lL.out aJ dX;injection Option.some.inj mO with qb2 tm _;subst qb2 tm)
 obtain⟨rfl,rfl,rfl,rfl,rfl,rfl⟩:=R.mk.inj (show R.mk 2 u1 u2 u3 u4 u5=.mk cz cD cE cB cF cO from gF.out)
 have Bi:=I fT
 unfold maxLen at fT
 obtain⟨rfl,rfl,rfl,rfl,rfl,rfl⟩:=R.mk.inj (show R.mk 1 v1 v2 v3 v4 v5=.mk da dw dx dy dz dA from od.out)
 have Ed:=I iw
 unfold maxLen at iw
 have iH:¬b1=w.heap.size:=aF
 have RR:=I (show cT (O.mk x0 x1 x2 x3 x4 x5 x6 x7 x8 x9 F G Z) (.mk 9 tag J [.mk 2 u1 u2 u3 u4 u5,.mk 1 v1 v2 v3 v4 v5] keys)=false by rw[iD];refine Bool.eq_false_iff.2 fun hh=>?_;simp only[Bool.and_eq_true,decide_eq_true_eq]at hh;(try simp only[cJ,cL,R.v]at hh);omega)
 clear jM
 have Hv:=I mR
 clear mR
 have FX:=I (show ∀(wx:World),cv wx S q (O.mk x0 x1 x2 x3 x4 x5 x6 x7 x8 x9 F G Z)->Row wx S' 6 (some ⟨b1,o1,none⟩) ci (([.mk 2 u1 u2 u3 u4 u5,.mk 1 v1 v2 v3 v4 v5]:List R).map R.D)->Calls prog 40 #[.pointer (some ⟨q,0,none⟩),.slice (some ⟨b1,o1,none⟩) 2 ci] wx fun e w'=>e=.returned (.bool (fS (O.mk x0 x1 x2 x3 x4 x5 x6 x7 x8 x9 F G Z) [.mk 2 u1 u2 u3 u4 u5,.mk 1 v1 v2 v3 v4 v5]))/\U wx w' from fun wx h1 h2=>gY (O.mk x0 x1 x2 x3 x4 x5 x6 x7 x8 x9 F G Z) [.mk 2 u1 u2 u3 u4 u5,.mk 1 v1 v2 v3 v4 v5] S S' q wx _ ci h1 h2)
 have ag5:decide (1<=v1)=false:=ax aF
 go_enter func41,ntmps41
 (go_wp2_with (fail))
 repeat (any_goals (go_quiet (fail);(try (go_wp2_with (fail)))))
 refine wp_region_held_drew (S:=fun w'=>w'.cell? ⟨w.heap.size,0,none⟩=some (.int .i64 9)/\w'.cell? ⟨w.heap.size,3,none⟩=some (.slice (some ⟨b1,o1,none⟩) 2 ci)/\w'.cell? ⟨b1,o1,none⟩=some (.int .i64 2)/\w'.cell? ⟨b1,o1+1,none⟩=some (.int .i64 u1)/\w'.cell? ⟨b1,o1+2,none⟩=some (.int .i64 u2)/\w'.cell? ⟨b1,o1+3,none⟩=some (.string u3)/\w'.cell? ⟨b1,o1+4,none⟩=some (.int .i64 u4)/\w'.cell? ⟨b1,o1+5,none⟩=some (.int .i64 u5)/\w'.cell? ⟨b1,o1+6,none⟩=some (.int .i64 1)/\w'.cell? ⟨b1,o1+7,none⟩=some (.int .i64 v1)/\w'.cell? ⟨b1,o1+8,none⟩=some (.int .i64 v2)/\w'.cell? ⟨b1,o1+9,none⟩=some (.string v3)/\w'.cell? ⟨b1,o1+10,none⟩=some (.int .i64 v4)/\w'.cell? ⟨b1,o1+11,none⟩=some (.int .i64 v5)) aG ?_ (fun iR=>?_)
 ·
  exact⟨jF,jF,(U.box (W:=w) bl b1 dS _).trans fD,(U.box (W:=w) bl b1 dS _).trans fE,(U.box (W:=w) bl b1 dS _).trans fG,(U.box (W:=w) bl b1 dS _).trans fK,(U.box (W:=w) bl b1 dS _).trans fN,(U.box (W:=w) bl b1 dS _).trans jy,(U.box (W:=w) bl b1 dS _).trans jS,(U.box (W:=w) bl b1 dS _).trans jT,(U.box (W:=w) bl b1 dS _).trans jU,(U.box (W:=w) bl b1 dS _).trans jV,(U.box (W:=w) bl b1 dS _).trans jW,(U.box (W:=w) bl b1 dS _).trans j1⟩
 refine ev 0 ?_
 refine ev 1 ?_
 refine ev 2 ?_
 refine ev 3 ?_
 refine ev 4 ?_
 refine ev 5 ?_
 refine ev 6 ?_
 refine ev 7 ?_
 refine ev 8 ?_
 refine ev 9 ?_
 refine ev 10 ?_
 refine ev 11 ?_
 refine ev 12 ?_
 refine ev 13 ?_
 refine ev 14 ?_
 refine ev 15 ?_
 refine ev 16 ?_
 refine ev 17 ?_
 refine ev 18 ?_
 refine ev 19 ?_
 refine ev 20 ?_
 refine ev 21 ?_
 refine ev 22 ?_
 refine ev 23 ?_
 refine wpAnyH_ready (rs:=[24]) aG aJ ?_
 refine AllReadyH.cons (o:=_) rfl (fun K hK=>?_) AllReadyH.nil
 go_simp
 clear iR
 (go_at_call 40;(with_reducible refine (FX.out _ (cv.de bl HS.out) (Row.de bl lL.out)).mono ?_);rintro e Rw ⟨rfl,jt⟩;rw[Hv.out];(have Cc:=jt.sz;obtain⟨qb,qc,qd,qe⟩:=jt.lay (w.heap.size);obtain⟨qf,qg,qh,qi⟩:=jt.lay (q);obtain⟨Co,Cp,Cq,Cr⟩:=jt.lay (b1)))
 refine hK.out _ _ ?_ (fun iR=>?_)
 ·
  exact⟨jF,jF,(U.box (W:=w) bl b1 dS _).trans fD,(U.box (W:=w) bl b1 dS _).trans fE,(U.box (W:=w) bl b1 dS _).trans fG,(U.box (W:=w) bl b1 dS _).trans fK,(U.box (W:=w) bl b1 dS _).trans fN,(U.box (W:=w) bl b1 dS _).trans jy,(U.box (W:=w) bl b1 dS _).trans jS,(U.box (W:=w) bl b1 dS _).trans jT,(U.box (W:=w) bl b1 dS _).trans jU,(U.box (W:=w) bl b1 dS _).trans jV,(U.box (W:=w) bl b1 dS _).trans jW,(U.box (W:=w) bl b1 dS _).trans j1⟩
 clear hK K
 (try simp only[Act.put,aa,ab,ae,af,ag,aj])
 refine ev 25 ?_
 refine ev 26 ?_
 refine ev 27 ?_
 refine ev 28 ?_
 refine ev 29 ?_
 refine ev 30 ?_
 refine ev 31 ?_
 refine ev 32 ?_
 exact Y3
end Go.Proofs.YtjngkknbpfgdcaaGreatDoor
