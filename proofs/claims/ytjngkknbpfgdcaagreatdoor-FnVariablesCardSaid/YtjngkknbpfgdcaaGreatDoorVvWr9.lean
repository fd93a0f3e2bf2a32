import Derived.Test.YtjngkknbpfgdcaaGreatDoorVvWr7
set_option linter.unusedVariables false
set_option linter.unusedSimpArgs false
set_option maxRecDepth 100000
set_option maxHeartbeats 8000000
namespace Go.Proofs.YtjngkknbpfgdcaaGreatDoor
open Go.RowKit Go.Proofs.Tryz
theorem MP (n i:Int) (t:cx) (lo hi:Int) (s:O) (hval:eP s=true) (gf:eE s ⟨17,n,i,t,lo,hi⟩=true):KI 34 s ⟨17,n,i,t,lo,hi⟩:=by
 obtain⟨x0,x1,x2,x3,x4,x5,x6,x7,x8,x9,F,G,Z⟩:=s
 obtain⟨m,rfl,hm,sw,-⟩:=jz gf aF
 rw[lg]at sw
 obtain⟨tag,J,a,b,he,Vd,za,Ju⟩:=tS hval hm sw
 obtain⟨a0,a1,a2,a3,a4,a5⟩:=a
 obtain rfl:a0=5:=Vd
 obtain⟨m2,rfl,qw,xN,-⟩:=jz (k:=5) za aF
 rw[mM]at xN
 obtain⟨nx,ny,its,keys,ht,hlen⟩:=yp hval qw xN
 clear gf sw za Ju xN hval
 simp only[O.gd]at hm qw he ht
 obtain⟨iq,fV,iu,iA,iB,iN⟩:=b
 have q1:kh (O.mk x0 x1 x2 x3 x4 x5 x6 x7 x8 x9 F G Z) (m:Int)=.mk 8 tag J [.mk 5 m2 a2 a3 a4 a5,.mk iq fV iu iA iB iN] []:=(iO (s:=(O.mk x0 x1 x2 x3 x4 x5 x6 x7 x8 x9 F G Z)) hm).trans he
 have q2:x2.getD m2 nS=.mk 3 nx ny its keys:=by rw[List.getD_eq_getElem?_getD,List.getElem?_eq_getElem qw,ht];rfl
 have qT:BB (O.mk x0 x1 x2 x3 x4 x5 x6 x7 x8 x9 F G Z) ⟨17,m,i,t,lo,hi⟩=m2:=by unfold BB;simp only[q1,cr.items,cJ,R.Df,Int.toNat_natCast]
 have qK:Fi (O.mk x0 x1 x2 x3 x4 x5 x6 x7 x8 x9 F G Z) ⟨17,m,i,t,lo,hi⟩=(⟨iq,fV,iu,iA,iB,iN⟩:cC):=by unfold Fi;simp only[q1,cr.items,cL,R.Df]
 obtain⟨d,hd,hdl⟩:=Bh keys (⟨iq,fV,iu,iA,iB,iN⟩:cC)
 have R1:=fun v:cC=>I (show 0<=lN keys (⟨iq,fV,iu,iA,iB,iN⟩:cC)->lX (O.mk x0 x1 x2 x3 x4 x5 x6 x7 x8 x9 F G Z) ⟨17,m,i,t,lo,hi⟩ v=(O.mk x0 x1 (x2.set m2 (.mk 3 nx ny (its.set d v.tv) keys)) x3 x4 x5 x6 x7 x8 x9 F G Z,0)from fun h=>by unfold lX;dsimp only;rw[if_neg aJ,if_neg aJ,if_neg aJ,if_pos rfl];simp only[qT,qK,q2,cr.keys];rw[if_pos h,hd,Int.toNat_natCast];unfold vm;rw[q2];rfl)
 have R2:=fun v:cC=>I (show lN keys (⟨iq,fV,iu,iA,iB,iN⟩:cC)<0->40<=keys.length->lX (O.mk x0 x1 x2 x3 x4 x5 x6 x7 x8 x9 F G Z) ⟨17,m,i,t,lo,hi⟩ v=((O.mk x0 x1 x2 x3 x4 x5 x6 x7 x8 x9 F G Z),302)from fun h h2=>by unfold lX;dsimp only;rw[if_neg aJ,if_neg aJ,if_neg aJ,if_pos rfl];simp only[qT,qK,q2,cr.keys];rw[if_neg aF,if_pos h2])
 have R3:=fun v:cC=>I (show lN keys (⟨iq,fV,iu,iA,iB,iN⟩:cC)<0->keys.length<40->lX (O.mk x0 x1 x2 x3 x4 x5 x6 x7 x8 x9 F G Z) ⟨17,m,i,t,lo,hi⟩ v=(O.mk x0 x1 (x2.set m2 (.mk 3 nx ny (its++[v.tv]) (keys++[.mk iq fV iu iA iB iN]))) x3 x4 x5 x6 x7 x8 x9 F G Z,0)from fun h h2=>by unfold lX;dsimp only;rw[if_neg aJ,if_neg aJ,if_neg aJ,if_pos rfl];simp only[qT,qK,q2,cr.keys];rw[if_neg aF,if_neg aF];unfold U8;rw[q2];rfl)
 obtain⟨dm,Fa⟩:∃dm,lN keys (⟨iq,fV,iu,iA,iB,iN⟩:cC)=dm:=⟨_,rfl⟩
 rw[Fa]at hd
 simp only[Fa]at R1 R2 R3
 have HD:=I Fa
 have SL:=I hlen
 clear Fa q1 q2 qT qK hlen
 intro v N q w vs L hW hN Ke hr hv j6
 have HV:=I hv
 obtain⟨vk,vn,vi,vt,vl,vh⟩:=v
 simp only[cC.val]
 have hq:=hW.lt
 have OS:=hW.lt
 have HW:=I hW
 clear hW hv
 go_enter func34,ntmps34
 go_upto_region 15 with (fail)
 refine cZ fun wr jO=>?_
 have jg:U w wr:=by rw[<-jO];exact bl
 have R4:=I (show V6 wr w.heap.size 17 m i t lo hi from by rw[<-jO];exact V6.on (V6.new w 34) (U.alloc (U.refl _) _))
 have R5:=I (show V6 wr (w.heap.size+1) vk vn vi vt vl vh from by rw[<-jO];have h:=V6.new (w.alloc (.cells #[.int .i64 17,.int .i64 m,.int .i64 i,.string t,.int .i64 lo,.int .i64 hi] 34)) 34 (k:=vk) (n:=vn) (i:=vi) (t:=vt) (lo:=vl) (hi:=vh);rw[World.size_alloc]at h;exact h)
 have W1:=I (HW.out.on jg)
 have hq:q<wr.heap.size:=au hq jg.size
 obtain⟨r4,nj⟩:∃x,w.heap.size=x:=⟨_,rfl⟩
 obtain⟨r5,nE⟩:∃x,w.heap.size+1=x:=⟨_,rfl⟩
 rw[nj]at R4
 rw[nE]at R5
 simp only[nE]
 simp only[nj]
 have HR4:=I nj
 have OT:=I nE
 clear jO nj nE
 replace R1:=R1 (⟨vk,vn,vi,vt,vl,vh⟩:cC)
 replace R2:=R2 (⟨vk,vn,vi,vt,vl,vh⟩:cC)
 replace R3:=R3 (⟨vk,vn,vi,vt,vl,vh⟩:cC)
 obtain⟨g,o,c2g,A4,c4,L4,SN,SP,UO,Pu,Io,hn4,Ip⟩:=HW.out.XE hN qw ht
 have Iq:=I Io
 have HN4:=I hn4
 have HPK:=I Ip
 clear HW Io hn4 Ip
 obtain⟨A2,c2,mo,yG⟩:=W1.out.ae7
 have kp:=I yG
 have ew:=yG.1
 have eL:=yG.2.1
 rw[ar]at ew
 unfold maxLen at eL
 clear yG
 have dX:U wr wr:=U.refl wr
 (obtain⟨b1,o1,cz,cD,cE,cB,cF,l8,iz,jG,jD,gb,dS,gy,gF,kP,eN,fi,eO,ed,iF,fD,fE,fG,fK,fN⟩:=cr.el kp.out m hm dX;subst gb)
 obtain⟨rfl,rfl,rfl,rfl,rfl⟩:=cr.mk.inj (he.symm.trans gF.out)
 (obtain⟨b3,o3,j9,gh,iI,iJ,iK,iL,Mw,yN,ve,Qu,OY,Jv,Jw,Jx,FJ,Jy,Jz,Qv,AP,Qw,Qx,Qy,Qz⟩:=R.e0 ed.out aJ dX;subst Mw)
 (obtain⟨b14,o14,SS,SU,SV,SW,SX,SY,acj,amP,amQ,ack,amR,S2,S3,S7,Ta,Tb,Tc,ql,qm,qn,qo,qp,qq⟩:=R.e1 ed.out aJ dX;injection Option.some.inj acj with acm acn _;subst acm acn)
 obtain⟨rfl,rfl,rfl,rfl,rfl,rfl⟩:=R.mk.inj (show R.mk 5 m2 a2 a3 a4 a5=.mk j9 gh iI iJ iK iL from Qu.out)
 obtain⟨rfl,rfl,rfl,rfl,rfl,rfl⟩:=R.mk.inj (show R.mk iq fV iu iA iB iN=.mk SS SU SV SW SX SY from ack.out)
 (obtain⟨b5,o5,Vz,VA,He,VC,VD,MA,De,vo,vp,VE,hl5,OV,VF,HV5,VG,VH,VI,qH,oX,ua,ub,uc,ud,qB⟩:=cr.el kp.out m2 qw dX;injection Option.some.inj VE with VJ VK _;subst VJ VK)
 obtain⟨rfl,rfl,rfl,rfl,rfl⟩:=cr.mk.inj (ht.symm.trans VF.out)
 obtain⟨kg,-,rfl⟩:=slice_inj (mo.symm.trans ((jg.box q OS 2).trans SN))
 obtain⟨rfl,rfl⟩:b1=g/\o1=o:=by simpa using kg
 obtain⟨rfl,-,rfl⟩:=slice_inj (qB.symm.trans ((jg.box b1 UO _).trans SP))
 clear kg SN SP
 have oj:=qH.out.1
 have om:=qH.out.2.1
 simp only[ar]at oj
 unfold maxLen at om
 have lI:=oX.out.1
 have BS:=oX.out.2.1
 simp only[ar]at lI
 unfold maxLen at BS
 have HKO:=I (show cC.Ok (⟨iq,fV,iu,iA,iB,iN⟩:cC)from⟨S2,S3,S7,Ta,Tb,Tc⟩)
 have dm1:decide ((m:Int)<(x2.length:Int))=true:=aH
 have dm2:decide ((m2:Int)<(x2.length:Int))=true:=aH
 have hdI:dT dm:=aO
 refine ea 9 (fun s f wq=>(U wr wq)/\(s 0=true->(f 0)=.pointer (some ⟨q,0,none⟩))/\(s 1=true->(f 1)=.pointer (some ⟨q,0,none⟩))/\(s 2=true->(f 2)=.pointer (some ⟨q,2,none⟩))/\(s 3=true->(f 3)=.slice (some ⟨b1,o1,none⟩) x2.length c2)/\(s 4=true->(f 4)=.pointer (some ⟨r4,1,none⟩))/\(s 5=true->(f 5)=.int .i64 (m:Int))/\(s 6=true->(f 6)=.pointer (some ⟨b1,o1+m*5,none⟩))/\(s 7=true->(f 7)=.agg #[.int .i64 8,.int .i64 tag,.int .i64 J,.slice (some ⟨b3,o3,none⟩) 2 iz,.slice jG 0 jD])/\(s 8=true->BxE wr.heap.size wq (f 8) (.int .i64 0) (.int .i64 0) (.int .i64 0) (.slice none 0 0) (.slice none 0 0))) [(0,some 73),(1,some 74),(2,some 75),(3,some 76),(4,some 77),(5,some 78),(6,some 79),(7,some 80),(8,some 7),(9,none)] rfl aG aG ?hJ rfl ?hstep ?hlast
 case hJ=>exact fun u=>⟨bl,cS,cS,cS,cS,cS,cS,cS,cS,cS⟩
 case hstep =>
  exact ahX
 case hlast =>
  simp only[gZ,Act.put,aa,ab,ae,af,ag,aj]
  intro uf wa ⟨s,fh,hJ⟩ K hK
  obtain⟨cQ,cI,cG,cN,cR,eQ,ef,dC,jN,qD⟩:=hJ
  have Ki:=jN (fh 7 aI)
  have aco:=qD (fh 8 aI)
  clear cI cG cN cR eQ ef dC jN qD fh
  obtain⟨re,ere,hre,hoe⟩:=aco
  rw[Ki,ere]at hK |-
  refine wp_store_mid 81 (.tmp 7) (.tmp 80) rfl re 0 #[.int .i64 8,.int .i64 tag,.int .i64 J,.slice (some ⟨b3,o3,none⟩) 2 iz,.slice jG 0 jD] rfl rfl hoe.SK aG aW ?_
  refine hK.out undef _ ?_
  clear hK
  have OE:=I (hoe.Zs (.int .i64 8) (.int .i64 tag) (.int .i64 J) (.slice (some ⟨b3,o3,none⟩) 2 iz) (.slice jG 0 jD))
  have BE:=I (El cQ hre [.int .i64 8,.int .i64 tag,.int .i64 J,.slice (some ⟨b3,o3,none⟩) 2 iz,.slice jG 0 jD])
  obtain⟨wz,mW⟩:∃x,wa.setCells re 0 [.int .i64 8,.int .i64 tag,.int .i64 J,.slice (some ⟨b3,o3,none⟩) 2 iz,.slice jG 0 jD]=x:=⟨_,rfl⟩
  rw[mW]at OE BE
  rw[show wa.setCells re 0 (#[Value.int .i64 8,.int .i64 tag,.int .i64 J,.slice (some ⟨b3,o3,none⟩) 2 iz,.slice jG 0 jD]:Array Value).toList=wz from mW]
  clear mW hoe cQ Ki ere
  generalize uf 0=z0
  generalize uf 1=z1
  generalize uf 2=z2
  generalize uf 3=z3
  generalize uf 4=z4
  generalize uf 5=z5
  generalize uf 6=z6
  generalize uf 7=z7
  generalize uf 8=z8
  clear uf
  obtain⟨Pb,hef,k0,k1,k2,k3,k4⟩:=OE.out
  have sS:=BE.out
  replace fD:=(BE.out.box b1 gy _).trans fD
  replace fE:=(BE.out.box b1 gy _).trans fE
  replace fG:=(BE.out.box b1 gy _).trans fG
  replace fK:=(BE.out.box b1 gy _).trans fK
  replace fN:=(BE.out.box b1 gy _).trans fN
  replace ua:=(BE.out.box b1 gy _).trans ua
  replace ub:=(BE.out.box b1 gy _).trans ub
  replace uc:=(BE.out.box b1 gy _).trans uc
  replace ud:=(BE.out.box b1 gy _).trans ud
  replace qB:=(BE.out.box b1 gy _).trans qB
  replace ql:=(BE.out.box b3 ve _).trans ql
  replace qm:=(BE.out.box b3 ve _).trans qm
  replace qn:=(BE.out.box b3 ve _).trans qn
  replace qo:=(BE.out.box b3 ve _).trans qo
  replace qp:=(BE.out.box b3 ve _).trans qp
  replace qq:=(BE.out.box b3 ve _).trans qq
  replace AP:=(BE.out.box b3 ve _).trans AP
  replace mo:=(BE.out.box q hq 2).trans mo
  have zT:=au gy sS.size
  have tA:=au ve sS.size
  have lq:=au hq sS.size
  go_upto_region 17 with (fail)
  refine ea 12 (fun s f wq=>(U wz wq)/\(s 0=true->(f 0)=.pointer (some ⟨q,0,none⟩))/\(s 1=true->(f 1)=.pointer (some ⟨q,0,none⟩))/\(s 2=true->(f 2)=.pointer (some ⟨q,2,none⟩))/\(s 3=true->(f 3)=.slice (some ⟨b1,o1,none⟩) x2.length c2)/\(s 4=true->(f 4)=.int .i64 (m2:Int))/\(s 5=true->(f 5)=.pointer (some ⟨b1,o1+m2*5,none⟩))/\(s 6=true->(f 6)=.agg #[.int .i64 3,.int .i64 nx,.int .i64 ny,.slice MA its.length De,.slice vo keys.length vp])/\(s 7=true->(f 7)=.pointer (some ⟨re,3,none⟩))/\(s 8=true->(f 8)=.slice (some ⟨b3,o3,none⟩) 2 iz)/\(s 9=true->(f 9)=.pointer (some ⟨b3,o3+6,none⟩))/\(s 10=true->(f 10)=.agg #[.int .i64 iq,.int .i64 fV,.int .i64 iu,.string iA,.int .i64 iB,.int .i64 iN])/\(s 11=true->(f 11)=.int .i64 dm)) [(0,some 86),(1,some 87),(2,some 88),(3,some 89),(4,some 90),(5,some 91),(6,some 92),(7,some 93),(8,some 94),(9,some 95),(10,some 96),(11,some 97),(12,some 9)] rfl aG aG ?hJ rfl ?hstep ?hlast
  case hJ=>exact fun u=>⟨bl,cS,cS,cS,cS,cS,cS,cS,cS,cS,cS,cS,cS⟩
  case hstep =>
   simp only[gZ,Act.put,aa,ab,ae,af,ag,aj]
   refine (ct (i:=0) (i2:=1) (o:=_) rfl ?s0 (ct (i:=1) (i2:=2) (o:=_) rfl ?s1 (ct (i:=2) (i2:=3) (o:=_) rfl ?s2 (ct (i:=3) (i2:=4) (o:=_) rfl ?s3 (ct (i:=4) (i2:=5) (o:=_) rfl ?s4 (ct (i:=5) (i2:=6) (o:=_) rfl ?s5 (ct (i:=6) (i2:=7) (o:=_) rfl ?s6 (ct (i:=7) (i2:=8) (o:=_) rfl ?s7 (ct (i:=8) (i2:=9) (o:=_) rfl ?s8 (ct (i:=9) (i2:=10) (o:=_) rfl ?s9 (ct (i:=10) (i2:=11) (o:=_) rfl ?s10 (ct (i:=11) (i2:=12) (o:=_) rfl ?s11 (fW aI)))))))))))))
   case s0 =>
    intro uf wa s hs ha cl hJ K hK
    obtain⟨cQ,cI,cG,cN,cR,cY,dC,jN,eb,dt,ec,dM,ka⟩:=hJ
    simp only[Act.put,aa,ab,ae,af,ag,aj]at hK |-
    go_simp
    exact hK.out _ _ ⟨cQ,fun _=>rfl,cG,cN,cR,cY,dC,jN,eb,dt,ec,dM,ka⟩
   case s1 =>
    intro uf wa s hs ha cl hJ K hK
    obtain⟨cQ,cI,cG,cN,cR,cY,dC,jN,eb,dt,ec,dM,ka⟩:=hJ
    have nR:=cI (ha 0 aG)
    simp only[Act.put,aa,ab,ae,af,ag,aj]at hK |-
    rw[nR]at hK |-
    go_simp
    exact hK.out _ _ ⟨cQ,cI,fun _=>rfl,cN,cR,cY,dC,jN,eb,dt,ec,dM,ka⟩
   case s2 =>
    intro uf wa s hs ha cl hJ K hK
    obtain⟨cQ,cI,cG,cN,cR,cY,dC,jN,eb,dt,ec,dM,ka⟩:=hJ
    have qs:=cG (ha 1 aG)
    simp only[Act.put,aa,ab,ae,af,ag,aj]at hK |-
    rw[qs]at hK |-
    go_simp
    exact hK.out _ _ ⟨cQ,cI,cG,fun _=>rfl,cR,cY,dC,jN,eb,dt,ec,dM,ka⟩
   case s3 =>
    intro uf wa s hs ha cl hJ K hK
    obtain⟨cQ,cI,cG,cN,cR,cY,dC,jN,eb,dt,ec,dM,ka⟩:=hJ
    have sN:=cN (ha 2 aG)
    simp only[Act.put,aa,ab,ae,af,ag,aj]at hK |-
    rw[sN]at hK |-
    have q1:=(cQ.box q lq _).trans mo
    go_simp
    exact hK.out _ _ ⟨cQ,cI,cG,cN,fun _=>rfl,cY,dC,jN,eb,dt,ec,dM,ka⟩
   case s4 =>
    intro uf wa s hs ha cl hJ K hK
    obtain⟨cQ,cI,cG,cN,cR,cY,dC,jN,eb,dt,ec,dM,ka⟩:=hJ
    simp only[Act.put,aa,ab,ae,af,ag,aj]at hK |-
    go_simp
    exact hK.out _ _ ⟨cQ,cI,cG,cN,cR,fun _=>rfl,dC,jN,eb,dt,ec,dM,ka⟩
   case s5 =>
    intro uf wa s hs ha cl hJ K hK
    obtain⟨cQ,cI,cG,cN,cR,cY,dC,jN,eb,dt,ec,dM,ka⟩:=hJ
    have uj:=cR (ha 3 aG)
    have xS:=cY (ha 4 aG)
    simp only[Act.put,aa,ab,ae,af,ag,aj]at hK |-
    rw[uj]at hK |-
    rw[xS]at hK |-
    go_simp
    exact hK.out _ _ ⟨cQ,cI,cG,cN,cR,cY,fun _=>rfl,jN,eb,dt,ec,dM,ka⟩
   case s6 =>
    intro uf wa s hs ha cl hJ K hK
    obtain⟨cQ,cI,cG,cN,cR,cY,dC,jN,eb,dt,ec,dM,ka⟩:=hJ
    have yH:=dC (ha 5 aG)
    simp only[Act.put,aa,ab,ae,af,ag,aj]at hK |-
    rw[yH]at hK |-
    have q0:=(cQ.box b1 zT _).trans ua
    have q1:=(cQ.box b1 zT _).trans ub
    have q2:=(cQ.box b1 zT _).trans uc
    have q3:=(cQ.box b1 zT _).trans ud
    have q4:=(cQ.box b1 zT _).trans qB
    go_simp
    exact hK.out _ _ ⟨cQ,cI,cG,cN,cR,cY,dC,fun _=>rfl,eb,dt,ec,dM,ka⟩
   case s7 =>
    intro uf wa s hs ha cl hJ K hK
    obtain⟨cQ,cI,cG,cN,cR,cY,dC,jN,eb,dt,ec,dM,ka⟩:=hJ
    simp only[Act.put,aa,ab,ae,af,ag,aj]at hK |-
    go_simp
    exact hK.out _ _ ⟨cQ,cI,cG,cN,cR,cY,dC,jN,fun _=>rfl,dt,ec,dM,ka⟩
   case s8 =>
    intro uf wa s hs ha cl hJ K hK
    obtain⟨cQ,cI,cG,cN,cR,cY,dC,jN,eb,dt,ec,dM,ka⟩:=hJ
    have F7:=eb (ha 7 aG)
    simp only[Act.put,aa,ab,ae,af,ag,aj]at hK |-
    rw[F7]at hK |-
    have q1:=(cQ.box re Pb _).trans k3
    go_simp
    exact hK.out _ _ ⟨cQ,cI,cG,cN,cR,cY,dC,jN,eb,fun _=>rfl,ec,dM,ka⟩
   case s9 =>
    intro uf wa s hs ha cl hJ K hK
    obtain⟨cQ,cI,cG,cN,cR,cY,dC,jN,eb,dt,ec,dM,ka⟩:=hJ
    have tM:=dt (ha 8 aG)
    simp only[Act.put,aa,ab,ae,af,ag,aj]at hK |-
    rw[tM]at hK |-
    go_simp
    exact hK.out _ _ ⟨cQ,cI,cG,cN,cR,cY,dC,jN,eb,dt,fun _=>rfl,dM,ka⟩
   case s10 =>
    intro uf wa s hs ha cl hJ K hK
    obtain⟨cQ,cI,cG,cN,cR,cY,dC,jN,eb,dt,ec,dM,ka⟩:=hJ
    have F8:=ec (ha 9 aG)
    simp only[Act.put,aa,ab,ae,af,ag,aj]at hK |-
    rw[F8]at hK |-
    have q0:=(cQ.box b3 tA _).trans ql
    have q1:=(cQ.box b3 tA _).trans qm
    have q2:=(cQ.box b3 tA _).trans qn
    have q3:=(cQ.box b3 tA _).trans qo
    have q4:=(cQ.box b3 tA _).trans qp
    have q5:=(cQ.box b3 tA _).trans qq
    go_simp
    exact hK.out _ _ ⟨cQ,cI,cG,cN,cR,cY,dC,jN,eb,dt,ec,fun _=>rfl,ka⟩
   case s11 =>
    intro uf wa s hs ha cl hJ K hK
    obtain⟨cQ,cI,cG,cN,cR,cY,dC,jN,eb,dt,ec,dM,ka⟩:=hJ
    have Ki:=jN (ha 6 aG)
    have Bu:=dM (ha 10 aG)
    simp only[Act.put,aa,ab,ae,af,ag,aj]at hK |-
    rw[Ki]at hK |-
    rw[Bu]at hK |-
    go_simp
    go_at_call 79
    (with_reducible refine (KH 3 nx ny its keys (⟨iq,fV,iu,iA,iB,iN⟩:cC) _ _ MA vo De vp (Row.de (U.trans BE.out cQ) oX.out) HKO.out).mono ?_)
    rintro e w5 ⟨rfl,xA⟩
    rw[HD.out]
    exact hK.out _ _ ⟨cQ.trans xA,cI,cG,cN,cR,cY,dC,jN,eb,dt,ec,dM,fun _=>rfl⟩
  case hlast =>
   simp only[gZ,Act.put,aa,ab,ae,af,ag,aj]
   intro uf wa ⟨s,fh,hJ⟩ K hK
   obtain⟨cQ,cI,cG,cN,cR,cY,dC,jN,eb,dt,ec,dM,ka⟩:=hJ
   have Td:=ka (fh 11 aI)
   clear cI cG cN cR cY dC jN eb dt ec dM ka fh
   rw[Td]at hK |-
   go_simp
   refine hK.out _ _ ?_
   clear hK Td
   generalize uf 0=y0
   generalize uf 1=y1
   generalize uf 2=y2
   generalize uf 3=y3
   generalize uf 4=y4
   generalize uf 5=y5
   generalize uf 6=y6
   generalize uf 7=y7
   generalize uf 8=y8
   generalize uf 9=y9
   generalize uf 10=te
   generalize uf 11=sV
   clear uf
   obtain⟨w2,nn⟩:∃x,wa=x:=⟨_,rfl⟩
   rw[nn]at cQ |-
   clear nn wa
   have tU:=jg.trans (U.trans BE.out cQ)
   have W2:=I (W1.out.on (U.trans BE.out cQ))
   have qC:=I (R5.out.on (U.trans BE.out cQ))
   have OE2:=I (OE.out.on cQ)
   have T0:N<=w2.heap.size:=aw hN tU.size
   replace mo:=(cQ.box q lq 2).trans mo
   replace ua:=(cQ.box b1 zT _).trans ua
   replace ub:=(cQ.box b1 zT _).trans ub
   replace uc:=(cQ.box b1 zT _).trans uc
   replace ud:=(cQ.box b1 zT _).trans ud
   replace qB:=(cQ.box b1 zT _).trans qB
   replace ql:=(cQ.box b3 tA _).trans ql
   replace qm:=(cQ.box b3 tA _).trans qm
   replace qn:=(cQ.box b3 tA _).trans qn
   replace qo:=(cQ.box b3 tA _).trans qo
   replace qp:=(cQ.box b3 tA _).trans qp
   replace qq:=(cQ.box b3 tA _).trans qq
   have Zt:=au lq cQ.size
   have acs:=au zT cQ.size
   have zn:=au tA cQ.size
   clear Pb hef k0 k1 k2 k3 k4 W1 R5 OE BE R4 cQ
   obtain⟨Pb,hef,k0,k1,k2,k3,k4⟩:=OE2.out
   by_cases h0:0<=dm
   case pos =>
    have d0:decide (0<=dm)=true:=ay h0
    have RR:=I (R1.out h0)
    have hjd:d<its.length:=by have:=SL.out;omega
    have sm:IntKind.i64.wrap (1+dm)=(d:Int):=aZ
    have sm2:IntKind.i64.wrap (d:Int)=(d:Int):=aZ
    have ddm:decide ((d:Int)<(its.length:Int))=true:=aH
    go_upto_region 19 with (fail)
    (try simp only[d0])
    clear d0
    obtain⟨gs,os,cs,g3,WD,c3s,WE,acu,hgs,amV,⟨Uv,hms,amX,acv⟩,Ir⟩:=W2.out.DY T0 qw ht hjd
    unfold maxLen at hms acv
    have HPS:=I Ir
    clear Ir
    obtain⟨kg,-,rfl⟩:=slice_inj (mo.symm.trans WE)
    obtain⟨rfl,rfl⟩:b1=gs/\o1=os:=by simpa using kg
    clear kg
    refine ea 12 (fun s f wq=>(U w2 wq)/\(s 0=true->(f 0)=.pointer (some ⟨q,0,none⟩))/\(s 1=true->(f 1)=.pointer (some ⟨q,0,none⟩))/\(s 2=true->(f 2)=.pointer (some ⟨q,2,none⟩))/\(s 3=true->(f 3)=.slice (some ⟨b1,o1,none⟩) x2.length c2)/\(s 4=true->(f 4)=.int .i64 (m2:Int))/\(s 5=true->(f 5)=.pointer (some ⟨b1,o1+m2*5,none⟩))/\(s 6=true->(f 6)=.pointer (some ⟨b1,o1+m2*5+3,none⟩))/\(s 7=true->(f 7)=.slice (some ⟨g3,WD,none⟩) its.length c3s)/\(s 8=true->(f 8)=.int .i64 dm)/\(s 9=true->(f 9)=.int .i64 (d:Int))/\(s 10=true->(f 10)=.agg #[.int .i64 vk,.int .i64 vn,.int .i64 vi,.string vt,.int .i64 vl,.int .i64 vh])/\(s 11=true->(f 11)=.pointer (some ⟨g3,WD+d*6,none⟩))) [(0,some 100),(1,some 101),(2,some 102),(3,some 103),(4,some 104),(5,some 105),(6,some 106),(7,some 107),(8,some 108),(9,some 109),(10,some 110),(11,some 111),(12,none)] rfl aG aG ?hJ rfl ?hstep ?hlast
    case hJ=>exact fun u=>⟨bl,cS,cS,cS,cS,cS,cS,cS,cS,cS,cS,cS,cS⟩
    case hstep =>
     simp only[gZ,Act.put,aa,ab,ae,af,ag,aj]
     refine (ct (i:=0) (i2:=1) (o:=_) rfl ?s0 (ct (i:=1) (i2:=2) (o:=_) rfl ?s1 (ct (i:=2) (i2:=3) (o:=_) rfl ?s2 (ct (i:=3) (i2:=4) (o:=_) rfl ?s3 (ct (i:=4) (i2:=5) (o:=_) rfl ?s4 (ct (i:=5) (i2:=6) (o:=_) rfl ?s5 (ct (i:=6) (i2:=7) (o:=_) rfl ?s6 (ct (i:=7) (i2:=8) (o:=_) rfl ?s7 (ct (i:=8) (i2:=9) (o:=_) rfl ?s8 (ct (i:=9) (i2:=10) (o:=_) rfl ?s9 (ct (i:=10) (i2:=11) (o:=_) rfl ?s10 (ct (i:=11) (i2:=12) (o:=_) rfl ?s11 (fW aI)))))))))))))
     case s0 =>
      intro uf wa s hs ha cl hJ K hK
      obtain⟨cQ,cI,cG,cN,cR,cY,dC,eh,dU,ks,kt,dB,eu⟩:=hJ
      simp only[Act.put,aa,ab,ae,af,ag,aj]at hK |-
      go_simp
      exact hK.out _ _ ⟨cQ,fun _=>rfl,cG,cN,cR,cY,dC,eh,dU,ks,kt,dB,eu⟩
     case s1 =>
      intro uf wa s hs ha cl hJ K hK
      obtain⟨cQ,cI,cG,cN,cR,cY,dC,eh,dU,ks,kt,dB,eu⟩:=hJ
      have nR:=cI (ha 0 aG)
      simp only[Act.put,aa,ab,ae,af,ag,aj]at hK |-
      rw[nR]at hK |-
      go_simp
      exact hK.out _ _ ⟨cQ,cI,fun _=>rfl,cN,cR,cY,dC,eh,dU,ks,kt,dB,eu⟩
     case s2 =>
      intro uf wa s hs ha cl hJ K hK
      obtain⟨cQ,cI,cG,cN,cR,cY,dC,eh,dU,ks,kt,dB,eu⟩:=hJ
      have qs:=cG (ha 1 aG)
      simp only[Act.put,aa,ab,ae,af,ag,aj]at hK |-
      rw[qs]at hK |-
      go_simp
      exact hK.out _ _ ⟨cQ,cI,cG,fun _=>rfl,cR,cY,dC,eh,dU,ks,kt,dB,eu⟩
     case s3 =>
      intro uf wa s hs ha cl hJ K hK
      obtain⟨cQ,cI,cG,cN,cR,cY,dC,eh,dU,ks,kt,dB,eu⟩:=hJ
      have sN:=cN (ha 2 aG)
      simp only[Act.put,aa,ab,ae,af,ag,aj]at hK |-
      rw[sN]at hK |-
      have q1:=(cQ.box q Zt _).trans WE
      go_simp
      exact hK.out _ _ ⟨cQ,cI,cG,cN,fun _=>rfl,cY,dC,eh,dU,ks,kt,dB,eu⟩
     case s4 =>
      intro uf wa s hs ha cl hJ K hK
      obtain⟨cQ,cI,cG,cN,cR,cY,dC,eh,dU,ks,kt,dB,eu⟩:=hJ
      simp only[Act.put,aa,ab,ae,af,ag,aj]at hK |-
      go_simp
      exact hK.out _ _ ⟨cQ,cI,cG,cN,cR,fun _=>rfl,dC,eh,dU,ks,kt,dB,eu⟩
     case s5 =>
      intro uf wa s hs ha cl hJ K hK
      obtain⟨cQ,cI,cG,cN,cR,cY,dC,eh,dU,ks,kt,dB,eu⟩:=hJ
      have uj:=cR (ha 3 aG)
      have xS:=cY (ha 4 aG)
      simp only[Act.put,aa,ab,ae,af,ag,aj]at hK |-
      rw[uj]at hK |-
      rw[xS]at hK |-
      go_simp
      exact hK.out _ _ ⟨cQ,cI,cG,cN,cR,cY,fun _=>rfl,eh,dU,ks,kt,dB,eu⟩
     case s6 =>
      intro uf wa s hs ha cl hJ K hK
      obtain⟨cQ,cI,cG,cN,cR,cY,dC,eh,dU,ks,kt,dB,eu⟩:=hJ
      have yH:=dC (ha 5 aG)
      simp only[Act.put,aa,ab,ae,af,ag,aj]at hK |-
      rw[yH]at hK |-
      go_simp
      exact hK.out _ _ ⟨cQ,cI,cG,cN,cR,cY,dC,fun _=>rfl,dU,ks,kt,dB,eu⟩
     case s7 =>
      intro uf wa s hs ha cl hJ K hK
      obtain⟨cQ,cI,cG,cN,cR,cY,dC,eh,dU,ks,kt,dB,eu⟩:=hJ
      have F9:=eh (ha 6 aG)
      simp only[Act.put,aa,ab,ae,af,ag,aj]at hK |-
      rw[F9]at hK |-
      have q1:=(cQ.box b1 hgs _).trans acu
      go_simp
      exact hK.out _ _ ⟨cQ,cI,cG,cN,cR,cY,dC,eh,fun _=>rfl,ks,kt,dB,eu⟩
     case s8 =>
      intro uf wa s hs ha cl hJ K hK
      obtain⟨cQ,cI,cG,cN,cR,cY,dC,eh,dU,ks,kt,dB,eu⟩:=hJ
      simp only[Act.put,aa,ab,ae,af,ag,aj]at hK |-
      go_simp
      exact hK.out _ _ ⟨cQ,cI,cG,cN,cR,cY,dC,eh,dU,fun _=>rfl,kt,dB,eu⟩
     case s9 =>
      intro uf wa s hs ha cl hJ K hK
      obtain⟨cQ,cI,cG,cN,cR,cY,dC,eh,dU,ks,kt,dB,eu⟩:=hJ
      have acw:=ks (ha 8 aG)
      simp only[Act.put,aa,ab,ae,af,ag,aj]at hK |-
      rw[acw]at hK |-
      go_simp
      exact hK.out _ _ ⟨cQ,cI,cG,cN,cR,cY,dC,eh,dU,ks,fun _=>rfl,dB,eu⟩
     case s10 =>
      intro uf wa s hs ha cl hJ K hK
      obtain⟨cQ,cI,cG,cN,cR,cY,dC,eh,dU,ks,kt,dB,eu⟩:=hJ
      simp only[Act.put,aa,ab,ae,af,ag,aj]at hK |-
      have q0:=(cQ.box r5 qC.out.lt 0).trans qC.out.c0
      have q1:=(cQ.box r5 qC.out.lt 1).trans qC.out.c1
      have q2:=(cQ.box r5 qC.out.lt 2).trans qC.out.c2
      have q3:=(cQ.box r5 qC.out.lt 3).trans qC.out.c3
      have q4:=(cQ.box r5 qC.out.lt 4).trans qC.out.c4
      have q5:=(cQ.box r5 qC.out.lt 5).trans qC.out.c5
      go_simp
      exact hK.out _ _ ⟨cQ,cI,cG,cN,cR,cY,dC,eh,dU,ks,kt,fun _=>rfl,eu⟩
     case s11 =>
      intro uf wa s hs ha cl hJ K hK
      obtain⟨cQ,cI,cG,cN,cR,cY,dC,eh,dU,ks,kt,dB,eu⟩:=hJ
      have CG:=dU (ha 7 aG)
      have acx:=kt (ha 9 aG)
      simp only[Act.put,aa,ab,ae,af,ag,aj]at hK |-
      rw[CG]at hK |-
      rw[acx]at hK |-
      go_simp
      exact hK.out _ _ ⟨cQ,cI,cG,cN,cR,cY,dC,eh,dU,ks,kt,dB,fun _=>rfl⟩
    case hlast =>
     simp only[gZ,Act.put,aa,ab,ae,af,ag,aj]
     intro uf wa ⟨s,fh,hJ⟩ K hK
     obtain⟨cQ,cI,cG,cN,cR,cY,dC,eh,dU,ks,kt,dB,eu⟩:=hJ
     have ss:=eu (fh 11 aI)
     have ph:=dB (fh 10 aI)
     clear cI cG cN cR cY dC eh dU ks kt dB eu fh
     rw[ss,ph]at hK |-
     obtain⟨yK,kH⟩:=HPS.out wa cQ
     refine wp_store_mid 34 (.tmp 111) (.tmp 110) rfl g3 (WD+d*6) #[.int .i64 vk,.int .i64 vn,.int .i64 vi,.string vt,.int .i64 vl,.int .i64 vh] rfl rfl yK aG aW ?_
     exact Zu
   have d0:decide (0<=dm)=false:=ax h0
   by_cases h40:40<=keys.length
   case pos =>
    exact ahZ
   have d40:decide ((40:Int)<=(keys.length:Int))=false:=aH
   have RR:=I (R3.out aF aF)
   go_upto_region 23 with (fail)
   (try simp only[d0,d40])
   (try rw[show decide (40<=keys.length)=false from ax aF])
   clear d0 d40
   obtain⟨iv,ye,DN,DO,DP⟩:=info_parts o9
   refine ea 21 (fun s f wq=>(s 18=false->U w2 wq)/\(wq.cell? ⟨q,2,none⟩=some (.slice (some ⟨b1,o1,none⟩) x2.length c2))/\(s 0=true->(f 0)=.pointer (some ⟨q,0,none⟩))/\(s 1=true->(f 1)=.pointer (some ⟨q,0,none⟩))/\(s 2=true->(f 2)=.pointer (some ⟨q,2,none⟩))/\(s 3=true->(f 3)=.slice (some ⟨b1,o1,none⟩) x2.length c2)/\(s 4=true->(f 4)=.int .i64 (m2:Int))/\(s 5=true->(f 5)=.pointer (some ⟨q,0,none⟩))/\(s 6=true->(f 6)=.pointer (some ⟨q,0,none⟩))/\(s 7=true->(f 7)=.pointer (some ⟨q,2,none⟩))/\(s 8=true->(f 8)=.slice (some ⟨b1,o1,none⟩) x2.length c2)/\(s 9=true->(f 9)=.int .i64 (m2:Int))/\(s 10=true->(f 10)=.pointer (some ⟨b1,o1+m2*5,none⟩))/\(s 11=true->(f 11)=.pointer (some ⟨b1,o1+m2*5+4,none⟩))/\(s 12=true->(f 12)=.slice vo keys.length vp)/\(s 13=true->(f 13)=.pointer (some ⟨re,3,none⟩))/\(s 14=true->(f 14)=.slice (some ⟨b3,o3,none⟩) 2 iz)/\(s 15=true->(f 15)=.pointer (some ⟨b3,o3+6,none⟩))/\(s 16=true->(f 16)=.agg #[.int .i64 iq,.int .i64 fV,.int .i64 iu,.string iA,.int .i64 iB,.int .i64 iN])/\(s 17=true->s 18=false->F6 w2.heap.size wq (f 17) #[.int .i64 iq,.int .i64 fV,.int .i64 iu,.string iA,.int .i64 iB,.int .i64 iN] 34)/\(s 18=true->GO N w w2 wq q b1 (o1+m2*5+4) (.slice vo keys.length vp) (keys.length+1) vs (O.mk x0 x1 (x2.set m2 (.mk 3 nx ny its (keys++[(R.mk iq fV iu iA iB iN)]))) x3 x4 x5 x6 x7 x8 x9 F G Z) w.heap.size (.slice (some ⟨b1,o1,none⟩) x2.length c2) (f 18))/\(s 19=true->(f 19)=.pointer (some ⟨b1,o1+m2*5,none⟩))/\(s 20=true->(f 20)=.pointer (some ⟨b1,o1+m2*5+4,none⟩))) [(0,some 122),(1,some 123),(2,some 124),(3,some 125),(4,some 126),(5,some 127),(6,some 128),(7,some 129),(8,some 130),(9,some 131),(10,some 132),(11,some 133),(12,some 134),(13,some 135),(14,some 136),(15,some 137),(16,some 138),(17,some 139),(18,some 140),(19,some 141),(20,some 142),(21,none)] rfl aG aG ?hJ rfl ?hstep ?hlast
   case hJ=>exact fun u=>⟨fun _=>bl,(U.box (W:=w2) bl q Zt 2).trans mo,cS,cS,cS,cS,cS,cS,cS,cS,cS,cS,cS,cS,cS,cS,cS,cS,cS,(fun h _=>absurd h aq),cS,cS,cS⟩
   case hstep =>
    simp only[gZ,Act.put,aa,ab,ae,af,ag,aj]
    refine (ct (i:=0) (i2:=1) (o:=_) rfl ?s0 (ct (i:=1) (i2:=2) (o:=_) rfl ?s1 (ct (i:=2) (i2:=3) (o:=_) rfl ?s2 (ct (i:=3) (i2:=4) (o:=_) rfl ?s3 (ct (i:=4) (i2:=5) (o:=_) rfl ?s4 (ct (i:=5) (i2:=6) (o:=_) rfl ?s5 (ct (i:=6) (i2:=7) (o:=_) rfl ?s6 (ct (i:=7) (i2:=8) (o:=_) rfl ?s7 (ct (i:=8) (i2:=9) (o:=_) rfl ?s8 (ct (i:=9) (i2:=10) (o:=_) rfl ?s9 (ct (i:=10) (i2:=11) (o:=_) rfl ?s10 (ct (i:=11) (i2:=12) (o:=_) rfl ?s11 (ct (i:=12) (i2:=13) (o:=_) rfl ?s12 (ct (i:=13) (i2:=14) (o:=_) rfl ?s13 (ct (i:=14) (i2:=15) (o:=_) rfl ?s14 (ct (i:=15) (i2:=16) (o:=_) rfl ?s15 (ct (i:=16) (i2:=17) (o:=_) rfl ?s16 (ct (i:=17) (i2:=18) (o:=_) rfl ?s17 (ct (i:=18) (i2:=19) (o:=_) rfl ?s18 (ct (i:=19) (i2:=20) (o:=_) rfl ?s19 (ct (i:=20) (i2:=21) (o:=_) rfl ?s20 (fW aI))))))))))))))))))))))
    case s0 =>
     intro uf wa s hs ha cl hJ K hK
     obtain⟨cQ,ej,cI,cG,cN,cR,cY,dZ,dp,eA,eB,dq,eC,dV,dW,eb,dt,ec,dM,dL,ep,eD,eo⟩:=hJ
     simp only[Act.put,aa,ab,ae,af,ag,aj]at hK |-
     go_simp
     exact hK.out _ _ ⟨cQ,ej,fun _=>rfl,cG,cN,cR,cY,dZ,dp,eA,eB,dq,eC,dV,dW,eb,dt,ec,dM,dL,ep,eD,eo⟩
    case s1 =>
     intro uf wa s hs ha cl hJ K hK
     obtain⟨cQ,ej,cI,cG,cN,cR,cY,dZ,dp,eA,eB,dq,eC,dV,dW,eb,dt,ec,dM,dL,ep,eD,eo⟩:=hJ
     have nR:=cI (ha 0 aG)
     simp only[Act.put,aa,ab,ae,af,ag,aj]at hK |-
     rw[nR]at hK |-
     go_simp
     exact hK.out _ _ ⟨cQ,ej,cI,fun _=>rfl,cN,cR,cY,dZ,dp,eA,eB,dq,eC,dV,dW,eb,dt,ec,dM,dL,ep,eD,eo⟩
    case s2 =>
     intro uf wa s hs ha cl hJ K hK
     obtain⟨cQ,ej,cI,cG,cN,cR,cY,dZ,dp,eA,eB,dq,eC,dV,dW,eb,dt,ec,dM,dL,ep,eD,eo⟩:=hJ
     have qs:=cG (ha 1 aG)
     simp only[Act.put,aa,ab,ae,af,ag,aj]at hK |-
     rw[qs]at hK |-
     go_simp
     exact hK.out _ _ ⟨cQ,ej,cI,cG,fun _=>rfl,cR,cY,dZ,dp,eA,eB,dq,eC,dV,dW,eb,dt,ec,dM,dL,ep,eD,eo⟩
    case s3 =>
     intro uf wa s hs ha cl hJ K hK
     obtain⟨cQ,ej,cI,cG,cN,cR,cY,dZ,dp,eA,eB,dq,eC,dV,dW,eb,dt,ec,dM,dL,ep,eD,eo⟩:=hJ
     have sN:=cN (ha 2 aG)
     simp only[Act.put,aa,ab,ae,af,ag,aj]at hK |-
     rw[sN]at hK |-
     have q1:=ej
     go_simp
     exact hK.out _ _ ⟨cQ,ej,cI,cG,cN,fun _=>rfl,cY,dZ,dp,eA,eB,dq,eC,dV,dW,eb,dt,ec,dM,dL,ep,eD,eo⟩
    case s4 =>
     intro uf wa s hs ha cl hJ K hK
     obtain⟨cQ,ej,cI,cG,cN,cR,cY,dZ,dp,eA,eB,dq,eC,dV,dW,eb,dt,ec,dM,dL,ep,eD,eo⟩:=hJ
     simp only[Act.put,aa,ab,ae,af,ag,aj]at hK |-
     go_simp
     exact hK.out _ _ ⟨cQ,ej,cI,cG,cN,cR,fun _=>rfl,dZ,dp,eA,eB,dq,eC,dV,dW,eb,dt,ec,dM,dL,ep,eD,eo⟩
    case s5 =>
     intro uf wa s hs ha cl hJ K hK
     obtain⟨cQ,ej,cI,cG,cN,cR,cY,dZ,dp,eA,eB,dq,eC,dV,dW,eb,dt,ec,dM,dL,ep,eD,eo⟩:=hJ
     simp only[Act.put,aa,ab,ae,af,ag,aj]at hK |-
     go_simp
     exact hK.out _ _ ⟨cQ,ej,cI,cG,cN,cR,cY,fun _=>rfl,dp,eA,eB,dq,eC,dV,dW,eb,dt,ec,dM,dL,ep,eD,eo⟩
    case s6 =>
     intro uf wa s hs ha cl hJ K hK
     obtain⟨cQ,ej,cI,cG,cN,cR,cY,dZ,dp,eA,eB,dq,eC,dV,dW,eb,dt,ec,dM,dL,ep,eD,eo⟩:=hJ
     have Te:=dZ (ha 5 aG)
     simp only[Act.put,aa,ab,ae,af,ag,aj]at hK |-
     rw[Te]at hK |-
     go_simp
     exact hK.out _ _ ⟨cQ,ej,cI,cG,cN,cR,cY,dZ,fun _=>rfl,eA,eB,dq,eC,dV,dW,eb,dt,ec,dM,dL,ep,eD,eo⟩
    case s7 =>
     intro uf wa s hs ha cl hJ K hK
     obtain⟨cQ,ej,cI,cG,cN,cR,cY,dZ,dp,eA,eB,dq,eC,dV,dW,eb,dt,ec,dM,dL,ep,eD,eo⟩:=hJ
     have CH:=dp (ha 6 aG)
     simp only[Act.put,aa,ab,ae,af,ag,aj]at hK |-
     rw[CH]at hK |-
     go_simp
     exact hK.out _ _ ⟨cQ,ej,cI,cG,cN,cR,cY,dZ,dp,fun _=>rfl,eB,dq,eC,dV,dW,eb,dt,ec,dM,dL,ep,eD,eo⟩
    case s8 =>
     intro uf wa s hs ha cl hJ K hK
     obtain⟨cQ,ej,cI,cG,cN,cR,cY,dZ,dp,eA,eB,dq,eC,dV,dW,eb,dt,ec,dM,dL,ep,eD,eo⟩:=hJ
     have Tf:=eA (ha 7 aG)
     simp only[Act.put,aa,ab,ae,af,ag,aj]at hK |-
     rw[Tf]at hK |-
     have q1:=ej
     go_simp
     exact hK.out _ _ ⟨cQ,ej,cI,cG,cN,cR,cY,dZ,dp,eA,fun _=>rfl,dq,eC,dV,dW,eb,dt,ec,dM,dL,ep,eD,eo⟩
    case s9 =>
     intro uf wa s hs ha cl hJ K hK
     obtain⟨cQ,ej,cI,cG,cN,cR,cY,dZ,dp,eA,eB,dq,eC,dV,dW,eb,dt,ec,dM,dL,ep,eD,eo⟩:=hJ
     simp only[Act.put,aa,ab,ae,af,ag,aj]at hK |-
     go_simp
     exact hK.out _ _ ⟨cQ,ej,cI,cG,cN,cR,cY,dZ,dp,eA,eB,fun _=>rfl,eC,dV,dW,eb,dt,ec,dM,dL,ep,eD,eo⟩
    case s10 =>
     intro uf wa s hs ha cl hJ K hK
     obtain⟨cQ,ej,cI,cG,cN,cR,cY,dZ,dp,eA,eB,dq,eC,dV,dW,eb,dt,ec,dM,dL,ep,eD,eo⟩:=hJ
     have Tg:=eB (ha 8 aG)
     have CI:=dq (ha 9 aG)
     simp only[Act.put,aa,ab,ae,af,ag,aj]at hK |-
     rw[Tg]at hK |-
     rw[CI]at hK |-
     go_simp
     exact hK.out _ _ ⟨cQ,ej,cI,cG,cN,cR,cY,dZ,dp,eA,eB,dq,fun _=>rfl,dV,dW,eb,dt,ec,dM,dL,ep,eD,eo⟩
    case s11 =>
     intro uf wa s hs ha cl hJ K hK
     obtain⟨cQ,ej,cI,cG,cN,cR,cY,dZ,dp,eA,eB,dq,eC,dV,dW,eb,dt,ec,dM,dL,ep,eD,eo⟩:=hJ
     have Th:=eC (ha 10 aG)
     simp only[Act.put,aa,ab,ae,af,ag,aj]at hK |-
     rw[Th]at hK |-
     go_simp
     exact hK.out _ _ ⟨cQ,ej,cI,cG,cN,cR,cY,dZ,dp,eA,eB,dq,eC,fun _=>rfl,dW,eb,dt,ec,dM,dL,ep,eD,eo⟩
    case s12 =>
     intro uf wa s hs ha cl hJ K hK
     obtain⟨cQ,ej,cI,cG,cN,cR,cY,dZ,dp,eA,eB,dq,eC,dV,dW,eb,dt,ec,dM,dL,ep,eD,eo⟩:=hJ
     have Ga:=dV (ha 11 aG)
     have pL:s 18=false:=by
      cases hq:s 18 with
      | false=>rfl
      | true=>exact absurd (cl 18 hq 12 aG) aT
     have hB:=cQ pL
     simp only[Act.put,aa,ab,ae,af,ag,aj]at hK |-
     rw[Ga]at hK |-
     have q1:=(hB.box b1 acs _).trans qB
     go_simp
     exact hK.out _ _ ⟨cQ,ej,cI,cG,cN,cR,cY,dZ,dp,eA,eB,dq,eC,dV,fun _=>rfl,eb,dt,ec,dM,dL,ep,eD,eo⟩
    case s13 =>
     intro uf wa s hs ha cl hJ K hK
     obtain⟨cQ,ej,cI,cG,cN,cR,cY,dZ,dp,eA,eB,dq,eC,dV,dW,eb,dt,ec,dM,dL,ep,eD,eo⟩:=hJ
     simp only[Act.put,aa,ab,ae,af,ag,aj]at hK |-
     go_simp
     exact hK.out _ _ ⟨cQ,ej,cI,cG,cN,cR,cY,dZ,dp,eA,eB,dq,eC,dV,dW,fun _=>rfl,dt,ec,dM,dL,ep,eD,eo⟩
    case s14 =>
     intro uf wa s hs ha cl hJ K hK
     obtain⟨cQ,ej,cI,cG,cN,cR,cY,dZ,dp,eA,eB,dq,eC,dV,dW,eb,dt,ec,dM,dL,ep,eD,eo⟩:=hJ
     have F7:=eb (ha 13 aG)
     have pL:s 18=false:=by
      cases hq:s 18 with
      | false=>rfl
      | true=>exact absurd (cl 15 (cl 16 (cl 17 (cl 18 hq 17 aG) 16 aG) 15 aG) 14 aG) aT
     have hB:=cQ pL
     simp only[Act.put,aa,ab,ae,af,ag,aj]at hK |-
     rw[F7]at hK |-
     have q1:=(hB.box re Pb _).trans k3
     go_simp
     exact hK.out _ _ ⟨cQ,ej,cI,cG,cN,cR,cY,dZ,dp,eA,eB,dq,eC,dV,dW,eb,fun _=>rfl,ec,dM,dL,ep,eD,eo⟩
    case s15 =>
     intro uf wa s hs ha cl hJ K hK
     obtain⟨cQ,ej,cI,cG,cN,cR,cY,dZ,dp,eA,eB,dq,eC,dV,dW,eb,dt,ec,dM,dL,ep,eD,eo⟩:=hJ
     have tM:=dt (ha 14 aG)
     simp only[Act.put,aa,ab,ae,af,ag,aj]at hK |-
     rw[tM]at hK |-
     go_simp
     exact hK.out _ _ ⟨cQ,ej,cI,cG,cN,cR,cY,dZ,dp,eA,eB,dq,eC,dV,dW,eb,dt,fun _=>rfl,dM,dL,ep,eD,eo⟩
    case s16 =>
     intro uf wa s hs ha cl hJ K hK
     obtain⟨cQ,ej,cI,cG,cN,cR,cY,dZ,dp,eA,eB,dq,eC,dV,dW,eb,dt,ec,dM,dL,ep,eD,eo⟩:=hJ
     have F8:=ec (ha 15 aG)
     have pL:s 18=false:=by
      cases hq:s 18 with
      | false=>rfl
      | true=>exact absurd (cl 17 (cl 18 hq 17 aG) 16 aG) aT
     have hB:=cQ pL
     simp only[Act.put,aa,ab,ae,af,ag,aj]at hK |-
     rw[F8]at hK |-
     have q0:=(hB.box b3 zn _).trans ql
     have q1:=(hB.box b3 zn _).trans qm
     have q2:=(hB.box b3 zn _).trans qn
     have q3:=(hB.box b3 zn _).trans qo
     have q4:=(hB.box b3 zn _).trans qp
     have q5:=(hB.box b3 zn _).trans qq
     go_simp
     exact hK.out _ _ ⟨cQ,ej,cI,cG,cN,cR,cY,dZ,dp,eA,eB,dq,eC,dV,dW,eb,dt,ec,fun _=>rfl,dL,ep,eD,eo⟩
    case s17 =>
     intro uf wa s hs ha cl hJ K hK
     obtain⟨cQ,ej,cI,cG,cN,cR,cY,dZ,dp,eA,eB,dq,eC,dV,dW,eb,dt,ec,dM,dL,ep,eD,eo⟩:=hJ
     have Bu:=dM (ha 16 aG)
     have pL:s 18=false:=by
      cases hq:s 18 with
      | false=>rfl
      | true=>exact absurd (cl 18 hq 17 aG) aT
     have hB:=cQ pL
     simp only[Act.put,aa,ab,ae,af,ag,aj]at hK |-
     rw[Bu]at hK |-
     have tu:=U.size hB
     have jl:U wa (wa.alloc (.cells #[.int .i64 iq,.int .i64 fV,.int .i64 iu,.string iA,.int .i64 iB,.int .i64 iN] 34)):=bl
     go_simp
     exact hK.out _ _ ⟨fun h=>(cQ h).trans jl,(jl.box q (au Zt tu) 2).trans ej,cI,cG,cN,cR,cY,dZ,dp,eA,eB,dq,eC,dV,dW,eb,dt,ec,dM,fun _ _=>⟨wa.heap.size,rfl,tu,heap_alloc_new _ _⟩,fun h=>absurd (pL.symm.trans h) aq,eD,eo⟩
    case s18 =>
     intro uf wa s hs ha cl hJ K hK
     obtain⟨cQ,ej,cI,cG,cN,cR,cY,dZ,dp,eA,eB,dq,eC,dV,dW,eb,dt,ec,dM,dL,ep,eD,eo⟩:=hJ
     have Gb:=dW (ha 12 aG)
     have Bt:=dL (ha 17 aG)
     have pL:s 18=false:=hs
     have hB:=cQ pL
     simp only[Act.put,aa,ab,ae,af,ag,aj]at hK |-
     rw[Gb]at hK |-
     obtain⟨gl,Kj,acy,Kk⟩:=Bt pL
     rw[Kj]at hK |-
     refine oc (.tmp 134) (.tmp 139) 27 rfl 34 iv (.agg #[.int .i64 0,.int .i64 0,.int .i64 0,.string ByteArray.empty,.int .i64 0,.int .i64 0]) underlying27 ye DN DO DP aI (Iq.out.de (U.trans tU hB)) HN4.out HKO.out rfl rfl (F6.src Kk) aF fun A9 c9 L9 w9 h2 h3 h4 h5=>?_
     have nL:=U.trans tU hB
     obtain⟨p1,p2,p3,p4,p5⟩:=HPK.out w9 A9 c9 L9 (keys++[(R.mk iq fV iu iA iB iN)]) h2 h3 (fun b hb=>(h4 b hb).imp id (fun e=>by have:=U.size nL;omega)) ((gp.dH _ nL).trans h5)
     have Xh:(keys++[(R.mk iq fV iu iA iB iN)]).length=keys.length+1:=aJ
     rw[Xh]at p4 p5
     have CJ:=Bf (W0:=w) hB h5 (fun b hb=>Iq.out.lt b hb) UO Pu p2 p3 p4 p5 p1
     have Jm:=p1
     exact hK.out _ _ ⟨fun h=>absurd (show true=false from h) aI,Jm,cI,cG,cN,cR,cY,dZ,dp,eA,eB,dq,eC,dV,dW,eb,dt,ec,dM,fun _ h=>absurd (show true=false from h) aI,fun _=>CJ,eD,eo⟩
    case s19 =>
     intro uf wa s hs ha cl hJ K hK
     obtain⟨cQ,ej,cI,cG,cN,cR,cY,dZ,dp,eA,eB,dq,eC,dV,dW,eb,dt,ec,dM,dL,ep,eD,eo⟩:=hJ
     have uj:=cR (ha 3 aG)
     have xS:=cY (ha 4 aG)
     simp only[Act.put,aa,ab,ae,af,ag,aj]at hK |-
     rw[uj]at hK |-
     rw[xS]at hK |-
     go_simp
     exact hK.out _ _ ⟨cQ,ej,cI,cG,cN,cR,cY,dZ,dp,eA,eB,dq,eC,dV,dW,eb,dt,ec,dM,dL,ep,fun _=>rfl,eo⟩
    case s20 =>
     intro uf wa s hs ha cl hJ K hK
     obtain⟨cQ,ej,cI,cG,cN,cR,cY,dZ,dp,eA,eB,dq,eC,dV,dW,eb,dt,ec,dM,dL,ep,eD,eo⟩:=hJ
     have Ti:=eD (ha 19 aG)
     simp only[Act.put,aa,ab,ae,af,ag,aj]at hK |-
     rw[Ti]at hK |-
     go_simp
     exact hK.out _ _ ⟨cQ,ej,cI,cG,cN,cR,cY,dZ,dp,eA,eB,dq,eC,dV,dW,eb,dt,ec,dM,dL,ep,eD,fun _=>rfl⟩
   case hlast =>
    simp only[gZ,Act.put,aa,ab,ae,af,ag,aj]
    intro uf wa ⟨s,fh,hJ⟩ K hK
    obtain⟨cQ,ej,cI,cG,cN,cR,cY,dZ,dp,eA,eB,dq,eC,dV,dW,eb,dt,ec,dM,dL,ep,eD,eo⟩:=hJ
    have Gc:=eo (fh 20 aI)
    obtain⟨A9,c9,Pc,I0,Ky,⟨L9,sy⟩,su,vu,zo,OD⟩:=ep (fh 18 aI)
    clear cQ ej cI cG cN cR cY dZ dp eA eB dq eC dV dW eb dt ec dM dL ep eD eo fh
    rw[Pc]at sy su vu zo OD
    rw[Gc,Pc]at hK |-
    have Tj:=Ky (o1+m2*5+4)
    go_simp
    refine hK.out undef _ ?_
    clear hK
    obtain⟨Is,Tk⟩:∃x,wa.setCell ⟨b1,o1+m2*5+4,none⟩ (.slice A9 (keys.length+1) c9)=x:=⟨_,rfl⟩
    rw[Tk]at sy su vu zo OD |-
    clear Tk I0 Ky Tj Gc Pc
    have OG:=I sy
    have It:=I su
    have AW:=I (qC.out.block vu (zo r5 (by have:=OT.out;omega) qC.out.lt))
    have lq3:=au Zt vu
    have hNz:N<=Is.heap.size:=aw T0 vu
    have vD:m2<(x2.set m2 (.mk 3 nx ny its (keys++[(R.mk iq fV iu iA iB iN)]))).length:=by rw[List.length_set];exact qw
    have XY:(x2.set m2 (cr.mk 3 nx ny its (keys++[(R.mk iq fV iu iA iB iN)])))[m2]=.mk 3 nx ny its (keys++[(R.mk iq fV iu iA iB iN)]):=List.getElem_set_self vD
    obtain⟨g,o,c2g,A3,c3,L3,Iu,Tl,Tm,acz,Iv,hn3,Iw⟩:=OG.out.XF hNz vD XY
    obtain⟨kg,-,rfl⟩:=slice_inj (OD.symm.trans Iu)
    obtain⟨rfl,rfl⟩:b1=g/\o1=o:=by simpa using kg
    have Ix:=I Iv
    have HN3:=I hn3
    have Vq:=I Iw
    clear sy su zo Iv hn3 Iw kg Iu XY vD
    generalize uf 0=v0
    generalize uf 1=v1
    generalize uf 2=v2
    generalize uf 3=v3
    generalize uf 4=v4
    generalize uf 5=v5
    generalize uf 6=v6
    generalize uf 7=v7
    generalize uf 8=v8
    generalize uf 9=v9
    generalize uf 10=v10
    generalize uf 11=v11
    generalize uf 12=v12
    generalize uf 13=v13
    generalize uf 14=v14
    generalize uf 15=v15
    generalize uf 16=v16
    generalize uf 17=v17
    generalize uf 18=v18
    generalize uf 19=v19
    generalize uf 20=v20
    clear uf
    go_upto_region 24 with (fail)
    refine ea 18 (fun s f wq=>(s 15=false->U Is wq)/\(wq.cell? ⟨q,2,none⟩=some (.slice (some ⟨b1,o1,none⟩) x2.length c2))/\(s 0=true->(f 0)=.pointer (some ⟨q,0,none⟩))/\(s 1=true->(f 1)=.pointer (some ⟨q,0,none⟩))/\(s 2=true->(f 2)=.pointer (some ⟨q,2,none⟩))/\(s 3=true->(f 3)=.slice (some ⟨b1,o1,none⟩) x2.length c2)/\(s 4=true->(f 4)=.int .i64 (m2:Int))/\(s 5=true->(f 5)=.pointer (some ⟨q,0,none⟩))/\(s 6=true->(f 6)=.pointer (some ⟨q,0,none⟩))/\(s 7=true->(f 7)=.pointer (some ⟨q,2,none⟩))/\(s 8=true->(f 8)=.slice (some ⟨b1,o1,none⟩) x2.length c2)/\(s 9=true->(f 9)=.int .i64 (m2:Int))/\(s 10=true->(f 10)=.pointer (some ⟨b1,o1+m2*5,none⟩))/\(s 11=true->(f 11)=.pointer (some ⟨b1,o1+m2*5+3,none⟩))/\(s 12=true->(f 12)=.slice A3 its.length c3)/\(s 13=true->(f 13)=.agg #[.int .i64 vk,.int .i64 vn,.int .i64 vi,.string vt,.int .i64 vl,.int .i64 vh])/\(s 14=true->s 15=false->F6 Is.heap.size wq (f 14) #[.int .i64 vk,.int .i64 vn,.int .i64 vi,.string vt,.int .i64 vl,.int .i64 vh] 34)/\(s 15=true->GO N Is Is wq q b1 (o1+m2*5+3) (.slice A3 its.length c3) (its.length+1) vs (O.mk x0 x1 ((x2.set m2 (.mk 3 nx ny its (keys++[(R.mk iq fV iu iA iB iN)]))).set m2 (.mk 3 nx ny (its++[(⟨vk,vn,vi,vt,vl,vh⟩:cC).tv]) (keys++[(R.mk iq fV iu iA iB iN)]))) x3 x4 x5 x6 x7 x8 x9 F G Z) Is.heap.size (.slice (some ⟨b1,o1,none⟩) x2.length c2) (f 15))/\(s 16=true->(f 16)=.pointer (some ⟨b1,o1+m2*5,none⟩))/\(s 17=true->(f 17)=.pointer (some ⟨b1,o1+m2*5+3,none⟩))) [(0,some 143),(1,some 144),(2,some 145),(3,some 146),(4,some 147),(5,some 148),(6,some 149),(7,some 150),(8,some 151),(9,some 152),(10,some 153),(11,some 154),(12,some 155),(13,some 156),(14,some 157),(15,some 158),(16,some 159),(17,some 160),(18,none)] rfl aG aG ?hJ rfl ?hstep ?hlast
    case hJ=>exact fun u=>⟨fun _=>bl,(U.box (W:=Is) bl q lq3 2).trans OD,cS,cS,cS,cS,cS,cS,cS,cS,cS,cS,cS,cS,cS,cS,(fun h _=>absurd h aq),cS,cS,cS⟩
    case hstep =>
     simp only[gZ,Act.put,aa,ab,ae,af,ag,aj]
     refine (ct (i:=0) (i2:=1) (o:=_) rfl ?s0 (ct (i:=1) (i2:=2) (o:=_) rfl ?s1 (ct (i:=2) (i2:=3) (o:=_) rfl ?s2 (ct (i:=3) (i2:=4) (o:=_) rfl ?s3 (ct (i:=4) (i2:=5) (o:=_) rfl ?s4 (ct (i:=5) (i2:=6) (o:=_) rfl ?s5 (ct (i:=6) (i2:=7) (o:=_) rfl ?s6 (ct (i:=7) (i2:=8) (o:=_) rfl ?s7 (ct (i:=8) (i2:=9) (o:=_) rfl ?s8 (ct (i:=9) (i2:=10) (o:=_) rfl ?s9 (ct (i:=10) (i2:=11) (o:=_) rfl ?s10 (ct (i:=11) (i2:=12) (o:=_) rfl ?s11 (ct (i:=12) (i2:=13) (o:=_) rfl ?s12 (ct (i:=13) (i2:=14) (o:=_) rfl ?s13 (ct (i:=14) (i2:=15) (o:=_) rfl ?s14 (ct (i:=15) (i2:=16) (o:=_) rfl ?s15 (ct (i:=16) (i2:=17) (o:=_) rfl ?s16 (ct (i:=17) (i2:=18) (o:=_) rfl ?s17 (fW aI)))))))))))))))))))
     case s0 =>
      intro uf wa s hs ha cl hJ K hK
      obtain⟨cQ,ej,cI,cG,cN,cR,cY,dZ,dp,eA,eB,dq,eC,dV,dW,dB,dL,ep,eD,eo⟩:=hJ
      simp only[Act.put,aa,ab,ae,af,ag,aj]at hK |-
      go_simp
      exact hK.out _ _ ⟨cQ,ej,fun _=>rfl,cG,cN,cR,cY,dZ,dp,eA,eB,dq,eC,dV,dW,dB,dL,ep,eD,eo⟩
     case s1 =>
      intro uf wa s hs ha cl hJ K hK
      obtain⟨cQ,ej,cI,cG,cN,cR,cY,dZ,dp,eA,eB,dq,eC,dV,dW,dB,dL,ep,eD,eo⟩:=hJ
      have nR:=cI (ha 0 aG)
      simp only[Act.put,aa,ab,ae,af,ag,aj]at hK |-
      rw[nR]at hK |-
      go_simp
      exact hK.out _ _ ⟨cQ,ej,cI,fun _=>rfl,cN,cR,cY,dZ,dp,eA,eB,dq,eC,dV,dW,dB,dL,ep,eD,eo⟩
     case s2 =>
      intro uf wa s hs ha cl hJ K hK
      obtain⟨cQ,ej,cI,cG,cN,cR,cY,dZ,dp,eA,eB,dq,eC,dV,dW,dB,dL,ep,eD,eo⟩:=hJ
      have qs:=cG (ha 1 aG)
      simp only[Act.put,aa,ab,ae,af,ag,aj]at hK |-
      rw[qs]at hK |-
      go_simp
      exact hK.out _ _ ⟨cQ,ej,cI,cG,fun _=>rfl,cR,cY,dZ,dp,eA,eB,dq,eC,dV,dW,dB,dL,ep,eD,eo⟩
     case s3 =>
      intro uf wa s hs ha cl hJ K hK
      obtain⟨cQ,ej,cI,cG,cN,cR,cY,dZ,dp,eA,eB,dq,eC,dV,dW,dB,dL,ep,eD,eo⟩:=hJ
      have sN:=cN (ha 2 aG)
      simp only[Act.put,aa,ab,ae,af,ag,aj]at hK |-
      rw[sN]at hK |-
      have q1:=ej
      go_simp
      exact hK.out _ _ ⟨cQ,ej,cI,cG,cN,fun _=>rfl,cY,dZ,dp,eA,eB,dq,eC,dV,dW,dB,dL,ep,eD,eo⟩
     case s4 =>
      intro uf wa s hs ha cl hJ K hK
      obtain⟨cQ,ej,cI,cG,cN,cR,cY,dZ,dp,eA,eB,dq,eC,dV,dW,dB,dL,ep,eD,eo⟩:=hJ
      simp only[Act.put,aa,ab,ae,af,ag,aj]at hK |-
      go_simp
      exact hK.out _ _ ⟨cQ,ej,cI,cG,cN,cR,fun _=>rfl,dZ,dp,eA,eB,dq,eC,dV,dW,dB,dL,ep,eD,eo⟩
     case s5 =>
      intro uf wa s hs ha cl hJ K hK
      obtain⟨cQ,ej,cI,cG,cN,cR,cY,dZ,dp,eA,eB,dq,eC,dV,dW,dB,dL,ep,eD,eo⟩:=hJ
      simp only[Act.put,aa,ab,ae,af,ag,aj]at hK |-
      go_simp
      exact hK.out _ _ ⟨cQ,ej,cI,cG,cN,cR,cY,fun _=>rfl,dp,eA,eB,dq,eC,dV,dW,dB,dL,ep,eD,eo⟩
     case s6 =>
      intro uf wa s hs ha cl hJ K hK
      obtain⟨cQ,ej,cI,cG,cN,cR,cY,dZ,dp,eA,eB,dq,eC,dV,dW,dB,dL,ep,eD,eo⟩:=hJ
      have Te:=dZ (ha 5 aG)
      simp only[Act.put,aa,ab,ae,af,ag,aj]at hK |-
      rw[Te]at hK |-
      go_simp
      exact hK.out _ _ ⟨cQ,ej,cI,cG,cN,cR,cY,dZ,fun _=>rfl,eA,eB,dq,eC,dV,dW,dB,dL,ep,eD,eo⟩
     case s7 =>
      intro uf wa s hs ha cl hJ K hK
      obtain⟨cQ,ej,cI,cG,cN,cR,cY,dZ,dp,eA,eB,dq,eC,dV,dW,dB,dL,ep,eD,eo⟩:=hJ
      have CH:=dp (ha 6 aG)
      simp only[Act.put,aa,ab,ae,af,ag,aj]at hK |-
      rw[CH]at hK |-
      go_simp
      exact hK.out _ _ ⟨cQ,ej,cI,cG,cN,cR,cY,dZ,dp,fun _=>rfl,eB,dq,eC,dV,dW,dB,dL,ep,eD,eo⟩
     case s8 =>
      intro uf wa s hs ha cl hJ K hK
      obtain⟨cQ,ej,cI,cG,cN,cR,cY,dZ,dp,eA,eB,dq,eC,dV,dW,dB,dL,ep,eD,eo⟩:=hJ
      have Tf:=eA (ha 7 aG)
      simp only[Act.put,aa,ab,ae,af,ag,aj]at hK |-
      rw[Tf]at hK |-
      have q1:=ej
      go_simp
      exact hK.out _ _ ⟨cQ,ej,cI,cG,cN,cR,cY,dZ,dp,eA,fun _=>rfl,dq,eC,dV,dW,dB,dL,ep,eD,eo⟩
     case s9 =>
      intro uf wa s hs ha cl hJ K hK
      obtain⟨cQ,ej,cI,cG,cN,cR,cY,dZ,dp,eA,eB,dq,eC,dV,dW,dB,dL,ep,eD,eo⟩:=hJ
      simp only[Act.put,aa,ab,ae,af,ag,aj]at hK |-
      go_simp
      exact hK.out _ _ ⟨cQ,ej,cI,cG,cN,cR,cY,dZ,dp,eA,eB,fun _=>rfl,eC,dV,dW,dB,dL,ep,eD,eo⟩
     case s10 =>
      intro uf wa s hs ha cl hJ K hK
      obtain⟨cQ,ej,cI,cG,cN,cR,cY,dZ,dp,eA,eB,dq,eC,dV,dW,dB,dL,ep,eD,eo⟩:=hJ
      have Tg:=eB (ha 8 aG)
      have CI:=dq (ha 9 aG)
      simp only[Act.put,aa,ab,ae,af,ag,aj]at hK |-
      rw[Tg]at hK |-
      rw[CI]at hK |-
      go_simp
      exact hK.out _ _ ⟨cQ,ej,cI,cG,cN,cR,cY,dZ,dp,eA,eB,dq,fun _=>rfl,dV,dW,dB,dL,ep,eD,eo⟩
     case s11 =>
      intro uf wa s hs ha cl hJ K hK
      obtain⟨cQ,ej,cI,cG,cN,cR,cY,dZ,dp,eA,eB,dq,eC,dV,dW,dB,dL,ep,eD,eo⟩:=hJ
      have Th:=eC (ha 10 aG)
      simp only[Act.put,aa,ab,ae,af,ag,aj]at hK |-
      rw[Th]at hK |-
      go_simp
      exact hK.out _ _ ⟨cQ,ej,cI,cG,cN,cR,cY,dZ,dp,eA,eB,dq,eC,fun _=>rfl,dW,dB,dL,ep,eD,eo⟩
     case s12 =>
      intro uf wa s hs ha cl hJ K hK
      obtain⟨cQ,ej,cI,cG,cN,cR,cY,dZ,dp,eA,eB,dq,eC,dV,dW,dB,dL,ep,eD,eo⟩:=hJ
      have Ga:=dV (ha 11 aG)
      have pL:s 15=false:=by
       cases hq:s 15 with
       | false=>rfl
       | true=>exact absurd (cl 15 hq 12 aG) aT
      have hB:=cQ pL
      simp only[Act.put,aa,ab,ae,af,ag,aj]at hK |-
      rw[Ga]at hK |-
      have q1:=(hB.box b1 Tm _).trans Tl
      go_simp
      exact hK.out _ _ ⟨cQ,ej,cI,cG,cN,cR,cY,dZ,dp,eA,eB,dq,eC,dV,fun _=>rfl,dB,dL,ep,eD,eo⟩
     case s13 =>
      intro uf wa s hs ha cl hJ K hK
      obtain⟨cQ,ej,cI,cG,cN,cR,cY,dZ,dp,eA,eB,dq,eC,dV,dW,dB,dL,ep,eD,eo⟩:=hJ
      have pL:s 15=false:=by
       cases hq:s 15 with
       | false=>rfl
       | true=>exact absurd (cl 14 (cl 15 hq 14 aG) 13 aG) aT
      have hB:=cQ pL
      simp only[Act.put,aa,ab,ae,af,ag,aj]at hK |-
      have q0:=(hB.box r5 AW.out.lt 0).trans AW.out.c0
      have q1:=(hB.box r5 AW.out.lt 1).trans AW.out.c1
      have q2:=(hB.box r5 AW.out.lt 2).trans AW.out.c2
      have q3:=(hB.box r5 AW.out.lt 3).trans AW.out.c3
      have q4:=(hB.box r5 AW.out.lt 4).trans AW.out.c4
      have q5:=(hB.box r5 AW.out.lt 5).trans AW.out.c5
      go_simp
      exact hK.out _ _ ⟨cQ,ej,cI,cG,cN,cR,cY,dZ,dp,eA,eB,dq,eC,dV,dW,fun _=>rfl,dL,ep,eD,eo⟩
     case s14 =>
      intro uf wa s hs ha cl hJ K hK
      obtain⟨cQ,ej,cI,cG,cN,cR,cY,dZ,dp,eA,eB,dq,eC,dV,dW,dB,dL,ep,eD,eo⟩:=hJ
      have ph:=dB (ha 13 aG)
      have pL:s 15=false:=by
       cases hq:s 15 with
       | false=>rfl
       | true=>exact absurd (cl 15 hq 14 aG) aT
      have hB:=cQ pL
      simp only[Act.put,aa,ab,ae,af,ag,aj]at hK |-
      rw[ph]at hK |-
      have tu:=U.size hB
      have jl:U wa (wa.alloc (.cells #[.int .i64 vk,.int .i64 vn,.int .i64 vi,.string vt,.int .i64 vl,.int .i64 vh] 34)):=bl
      go_simp
      exact hK.out _ _ ⟨fun h=>(cQ h).trans jl,(jl.box q (au lq3 tu) 2).trans ej,cI,cG,cN,cR,cY,dZ,dp,eA,eB,dq,eC,dV,dW,dB,fun _ _=>⟨wa.heap.size,rfl,tu,heap_alloc_new _ _⟩,fun h=>absurd (pL.symm.trans h) aq,eD,eo⟩
     case s15 =>
      intro uf wa s hs ha cl hJ K hK
      obtain⟨cQ,ej,cI,cG,cN,cR,cY,dZ,dp,eA,eB,dq,eC,dV,dW,dB,dL,ep,eD,eo⟩:=hJ
      have Gb:=dW (ha 12 aG)
      have Bt:=dL (ha 14 aG)
      have pL:s 15=false:=hs
      have hB:=cQ pL
      simp only[Act.put,aa,ab,ae,af,ag,aj]at hK |-
      rw[Gb]at hK |-
      obtain⟨gl,Kj,acy,Kk⟩:=Bt pL
      rw[Kj]at hK |-
      refine oc (.tmp 155) (.tmp 157) 27 rfl 34 iv (.agg #[.int .i64 0,.int .i64 0,.int .i64 0,.string ByteArray.empty,.int .i64 0,.int .i64 0]) underlying27 ye DN DO DP aI (Ix.out.de hB) HN3.out HV.out rfl rfl (F6.src Kk) (by have:=SL.out;omega) fun A9 c9 L9 w9 h2 h3 h4 h5=>?_
      obtain⟨p1,p2,p3,p4,p5⟩:=Vq.out w9 A9 c9 L9 (its++[(⟨vk,vn,vi,vt,vl,vh⟩:cC).tv]) h2 h3 (fun b hb=>(h4 b hb).imp id (fun e=>by have:=U.size hB;omega)) ((gp.dH _ hB).trans h5)
      have Xh:(its++[(⟨vk,vn,vi,vt,vl,vh⟩:cC).tv]).length=its.length+1:=aJ
      rw[Xh]at p4 p5
      rw[List.length_set]at p1
      have CJ:=Bf (W0:=Is) hB h5 (fun b hb=>Ix.out.lt b hb) Tm acz p2 p3 p4 p5 p1
      have Jm:=p1
      exact hK.out _ _ ⟨fun h=>absurd (show true=false from h) aI,Jm,cI,cG,cN,cR,cY,dZ,dp,eA,eB,dq,eC,dV,dW,dB,fun _ h=>absurd (show true=false from h) aI,fun _=>CJ,eD,eo⟩
     case s16 =>
      intro uf wa s hs ha cl hJ K hK
      obtain⟨cQ,ej,cI,cG,cN,cR,cY,dZ,dp,eA,eB,dq,eC,dV,dW,dB,dL,ep,eD,eo⟩:=hJ
      have uj:=cR (ha 3 aG)
      have xS:=cY (ha 4 aG)
      simp only[Act.put,aa,ab,ae,af,ag,aj]at hK |-
      rw[uj]at hK |-
      rw[xS]at hK |-
      go_simp
      exact hK.out _ _ ⟨cQ,ej,cI,cG,cN,cR,cY,dZ,dp,eA,eB,dq,eC,dV,dW,dB,dL,ep,fun _=>rfl,eo⟩
     case s17 =>
      intro uf wa s hs ha cl hJ K hK
      obtain⟨cQ,ej,cI,cG,cN,cR,cY,dZ,dp,eA,eB,dq,eC,dV,dW,dB,dL,ep,eD,eo⟩:=hJ
      have Ti:=eD (ha 16 aG)
      simp only[Act.put,aa,ab,ae,af,ag,aj]at hK |-
      rw[Ti]at hK |-
      go_simp
      exact hK.out _ _ ⟨cQ,ej,cI,cG,cN,cR,cY,dZ,dp,eA,eB,dq,eC,dV,dW,dB,dL,ep,eD,fun _=>rfl⟩
    case hlast =>
     simp only[gZ,Act.put,aa,ab,ae,af,ag,aj]
     intro uf wa ⟨s,fh,hJ⟩ K hK
     obtain⟨cQ,ej,cI,cG,cN,cR,cY,dZ,dp,eA,eB,dq,eC,dV,dW,dB,dL,ep,eD,eo⟩:=hJ
     have Gc:=eo (fh 17 aI)
     obtain⟨A9,c9,Pc,I0,Ky,⟨L9,sy⟩,su,vu,zo,OD⟩:=ep (fh 15 aI)
     clear cQ ej cI cG cN cR cY dZ dp eA eB dq eC dV dW dB dL ep eD eo fh
     exact Zv
end Go.Proofs.YtjngkknbpfgdcaaGreatDoor
