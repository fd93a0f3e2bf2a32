import Derived.Test.YtjngkknbpfgdcaaGreatDoorPr
import Derived.Test.YtjngkknbpfgdcaaGreatDoorPWr6
import Derived.Test.YtjngkknbpfgdcaaGreatDoorPWr7
import Derived.Test.YtjngkknbpfgdcaaGreatDoorPR0
set_option linter.unusedVariables false
set_option linter.unusedSimpArgs false
set_option maxRecDepth 100000
set_option maxHeartbeats 8000000
namespace Go.Proofs.YtjngkknbpfgdcaaGreatDoor
open Go.RowKit
theorem Kc (n i:Int) (t:ByteArray) (lo hi:Int) (s:cv) (hval:gJ s=true) (hin:inB s ⟨17,n,i,t,lo,hi⟩=true):I3 34 s ⟨17,n,i,t,lo,hi⟩:=by
 obtain⟨x0,x1,x2,x3,x4,x5,x6,x7,x8,x9,x10,x11,x12⟩:=s
 obtain⟨m,rfl,hm,hkd,-⟩:=qk hin aB
 rw[lS]at hkd
 obtain⟨tag,cR,a,b,he,ha5,QZ,Z8⟩:=EU hval hm hkd
 obtain⟨a0,a1,a2,a3,a4,a5⟩:=a
 obtain rfl:a0=5:=ha5
 obtain⟨m2,rfl,hm2,Ic,-⟩:=qk (k:=5) QZ aB
 rw[ny]at Ic
 obtain⟨qJ,qL,its,keys,ht,hlen⟩:=EV hval hm2 Ic
 clear hin hkd QZ Z8 Ic hval
 simp only[cv.jz]at hm hm2 he ht
 obtain⟨jf,gA,jg,jm,jn,jD⟩:=b
 have q1:Cr (cv.mk x0 x1 x2 x3 x4 x5 x6 x7 x8 x9 x10 x11 x12) (m:Int)=.mk 8 tag cR [.mk 5 m2 a2 a3 a4 a5,.mk jf gA jg jm jn jD] []:=(Cs (s:=(cv.mk x0 x1 x2 x3 x4 x5 x6 x7 x8 x9 x10 x11 x12)) hm).trans he
 have q2:x2.getD m2 ph=.mk 3 qJ qL its keys:=by rw[List.getD_eq_getElem?_getD,List.getElem?_eq_getElem hm2,ht];rfl
 have qT:Ea (cv.mk x0 x1 x2 x3 x4 x5 x6 x7 x8 x9 x10 x11 x12) ⟨17,m,i,t,lo,hi⟩=m2:=by unfold Ea;simp only[q1,cz.items,cZ,cw.Ts,Int.toNat_natCast]
 have qK:Ia (cv.mk x0 x1 x2 x3 x4 x5 x6 x7 x8 x9 x10 x11 x12) ⟨17,m,i,t,lo,hi⟩=(⟨jf,gA,jg,jm,jn,jD⟩:cV):=by unfold Ia;simp only[q1,cz.items,da,cw.Ts]
 obtain⟨d,hd,hdl⟩:=I2 keys (⟨jf,gA,jg,jm,jn,jD⟩:cV)
 have R1:=fun v:cV=>hide (show 0<=oB keys (⟨jf,gA,jg,jm,jn,jD⟩:cV)->mi (cv.mk x0 x1 x2 x3 x4 x5 x6 x7 x8 x9 x10 x11 x12) ⟨17,m,i,t,lo,hi⟩ v=(cv.mk x0 x1 (x2.set m2 (.mk 3 qJ qL (its.set d v.tv) keys)) x3 x4 x5 x6 x7 x8 x9 x10 x11 x12,0)from fun h=>by unfold mi;dsimp only;rw[if_neg aK,if_neg aK,if_neg aK,if_pos rfl];simp only[qT,qK,q2,cz.keys];rw[if_pos h,hd,Int.toNat_natCast];unfold xr;rw[q2];rfl)
 have R2:=fun v:cV=>hide (show oB keys (⟨jf,gA,jg,jm,jn,jD⟩:cV)<0->40<=keys.length->mi (cv.mk x0 x1 x2 x3 x4 x5 x6 x7 x8 x9 x10 x11 x12) ⟨17,m,i,t,lo,hi⟩ v=((cv.mk x0 x1 x2 x3 x4 x5 x6 x7 x8 x9 x10 x11 x12),302)from fun h h2=>by unfold mi;dsimp only;rw[if_neg aK,if_neg aK,if_neg aK,if_pos rfl];simp only[qT,qK,q2,cz.keys];rw[if_neg aB,if_pos h2])
 have R3:=fun v:cV=>hide (show oB keys (⟨jf,gA,jg,jm,jn,jD⟩:cV)<0->keys.length<40->mi (cv.mk x0 x1 x2 x3 x4 x5 x6 x7 x8 x9 x10 x11 x12) ⟨17,m,i,t,lo,hi⟩ v=(cv.mk x0 x1 (x2.set m2 (.mk 3 qJ qL (its++[v.tv]) (keys++[.mk jf gA jg jm jn jD]))) x3 x4 x5 x6 x7 x8 x9 x10 x11 x12,0)from fun h h2=>by unfold mi;dsimp only;rw[if_neg aK,if_neg aK,if_neg aK,if_pos rfl];simp only[qT,qK,q2,cz.keys];rw[if_neg aB,if_neg aB];unfold Kl;rw[q2];rfl)
 obtain⟨dm,hdm⟩:∃dm,oB keys (⟨jf,gA,jg,jm,jn,jD⟩:cV)=dm:=⟨_,rfl⟩
 rw[hdm]at hd
 simp only[hdm]at R1 R2 R3
 have HD:=hide hdm
 have HLEN:=hide hlen
 clear hdm q1 q2 qT qK hlen
 intro v N q w vs L hW hN hNq hr hv htab
 have HV:=hide hv
 obtain⟨vk,vn,vi,vt,vl,vh⟩:=v
 simp only[cV.val]
 have hq:=hW.lt
 have hq0:=hW.lt
 have HW:=hide hW
 clear hW hv
 go_enter Tryz.func34,Tryz.ntmps34
 go_upto_region 15 with (fail)
 refine dO fun wr hwr=>?_
 have hbr:cE w wr:=by rw[<-hwr];exact bl
 have R4:=hide (show V6 wr w.heap.size 17 m i t lo hi from by rw[<-hwr];exact V6.on (V6.new w 34) (cE.alloc (cE.refl _) _))
 have R5:=hide (show V6 wr (w.heap.size+1) vk vn vi vt vl vh from by rw[<-hwr];have h:=V6.new (w.alloc (.cells #[.int .i64 17,.int .i64 m,.int .i64 i,.string t,.int .i64 lo,.int .i64 hi] 34)) 34 (k:=vk) (n:=vn) (i:=vi) (t:=vt) (lo:=vl) (hi:=vh);rw[World.size_alloc]at h;exact h)
 have W1:=hide (HW.out.on hbr)
 have hq:q<wr.heap.size:=ak hq hbr.size
 obtain⟨r4,hr4⟩:∃x,w.heap.size=x:=⟨_,rfl⟩
 obtain⟨r5,nt⟩:∃x,w.heap.size+1=x:=⟨_,rfl⟩
 rw[hr4]at R4
 rw[nt]at R5
 simp only[nt]
 simp only[hr4]
 have HR4:=hide hr4
 have TG:=hide nt
 clear hwr hr4 nt
 replace R1:=R1 (⟨vk,vn,vi,vt,vl,vh⟩:cV)
 replace R2:=R2 (⟨vk,vn,vi,vt,vl,vh⟩:cV)
 replace R3:=R3 (⟨vk,vn,vi,vt,vl,vh⟩:cV)
 obtain⟨g,o,c2g,A4,c4,L4,Q5,Q9,hgl,hgq,hrow4,hn4,Gj⟩:=HW.out.X8 hN hm2 ht
 have Gk:=hide hrow4
 have HN4:=hide hn4
 have HPK:=hide Gj
 clear HW hrow4 hn4 Gj
 obtain⟨A2,c2,lN,hrow2⟩:=W1.out.ae9
 have HR2:=hide hrow2
 have fB:=hrow2.1
 have hcm2:=hrow2.2.1
 rw[aj]at fB
 unfold maxLen at hcm2
 clear hrow2
 have hbw:cE wr wr:=cE.refl wr
 (obtain⟨b1,o1,cH,cM,cN,cO,cP,mw,jr,jR,jI,hA1,hS1,hl1,hx1,hv1,eY,eG,fa,dY,er,db,de,dq,dy,dz⟩:=cz.at HR2.out m hm;subst hA1;have jh:=hide (Dat.cC.bel hbw hv1);have hh1:=hbw.box b1 hl1;have hw1:=ak hl1 (cE.size hbw);replace db:=(hh1 _).trans db;replace de:=(hh1 _).trans de;replace dq:=(hh1 _).trans dq;replace dy:=(hh1 _).trans dy;replace dz:=(hh1 _).trans dz;have gv:=hide hx1;have fJ:=hide dY;have jq:=hide er;clear hh1 hv1 hx1 hS1 dY er)
 obtain⟨rfl,rfl,rfl,rfl,rfl⟩:=cz.mk.inj (he.symm.trans gv.out)
 (obtain⟨b3,o3,j4,gx,iN,iO,iP,iQ,hA3,hS3,hl3,hx3,hv3,PE,PF,PG,Hl,PH,PI,wQ,rr,wR,wS,wT,wU⟩:=cw.at fJ.out 0 aK;subst hA3;have HV3:=hide (Dat.cC.bel hbw hv3);have hh3:=hbw.box b3 hl3;have hw3:=ak hl3 (cE.size hbw);replace wQ:=(hh3 _).trans wQ;replace rr:=(hh3 _).trans rr;replace wR:=(hh3 _).trans wR;replace wS:=(hh3 _).trans wS;replace wT:=(hh3 _).trans wT;replace wU:=(hh3 _).trans wU;have ZO:=hide hx3;clear hh3 hv3 hx3 hS3;simp only[Nat.zero_mul,Nat.one_mul,Nat.add_zero,Nat.reduceMul,Nat.add_assoc,Nat.reduceAdd]at wQ rr wR wS wT wU)
 (obtain⟨b14,o14,Ra,Rb,Rc,Rd,Re,Rf,Z9,aab,Rg,Rh,Ri,Rj,Rk,Rl,Rm,Rn,Ro,lX,lY,lZ,l0,l8,l9⟩:=cw.at fJ.out 1 aK;injection Option.some.inj Z9 with aac aad _;subst aac aad;have aiQ:=hide (Dat.cC.bel hbw Ri);have wZ:=hbw.box b3 Rg;have aiR:=ak Rg (cE.size hbw);replace lX:=(wZ _).trans lX;replace lY:=(wZ _).trans lY;replace lZ:=(wZ _).trans lZ;replace l0:=(wZ _).trans l0;replace l8:=(wZ _).trans l8;replace l9:=(wZ _).trans l9;have aae:=hide Rh;clear wZ Ri Rh aab;simp only[Nat.zero_mul,Nat.one_mul,Nat.add_zero,Nat.reduceMul,Nat.add_assoc,Nat.reduceAdd]at lX lY lZ l0 l8 l9)
 obtain⟨rfl,rfl,rfl,rfl,rfl,rfl⟩:=cw.mk.inj (show cw.mk 5 m2 a2 a3 a4 a5=.mk j4 gx iN iO iP iQ from ZO.out)
 obtain⟨rfl,rfl,rfl,rfl,rfl,rfl⟩:=cw.mk.inj (show cw.mk jf gA jg jm jn jD=.mk Ra Rb Rc Rd Re Rf from aae.out)
 (obtain⟨b5,o5,aei,aej,Li,aek,ael,Tm,Tn,BP,BQ,hA5,hS5,hl5,hx5,hv5,aen,aeo,aep,FJ,FK,rU,rV,rW,rX,oI⟩:=cz.at HR2.out m2 hm2;injection Option.some.inj hA5 with qb5 qo5 _;subst qb5 qo5;have HV5:=hide (Dat.cC.bel hbw hv5);have hh5:=hbw.box b1 hl5;have hw5:=ak hl5 (cE.size hbw);replace rU:=(hh5 _).trans rU;replace rV:=(hh5 _).trans rV;replace rW:=(hh5 _).trans rW;replace rX:=(hh5 _).trans rX;replace oI:=(hh5 _).trans oI;have HX5:=hide hx5;have Cy:=hide FJ;have yK:=hide FK;clear hh5 hv5 hx5 hS5 FJ FK)
 obtain⟨rfl,rfl,rfl,rfl,rfl⟩:=cz.mk.inj (ht.symm.trans HX5.out)
 obtain⟨kg,-,rfl⟩:=slice_inj (lN.symm.trans ((hbr.box q hq0 2).trans Q5))
 obtain⟨rfl,rfl⟩:b1=g/\o1=o:=by simpa using kg
 obtain⟨rfl,-,rfl⟩:=slice_inj (oI.symm.trans ((hbr.box b1 hgl _).trans Q9))
 clear kg Q5 Q9
 have hll:=Cy.out.1
 have hlm:=Cy.out.2.1
 simp only[aj]at hll
 unfold maxLen at hlm
 have hlk:=yK.out.1
 have aaf:=yK.out.2.1
 simp only[aj]at hlk
 unfold maxLen at aaf
 have HKO:=hide (show cV.Ok (⟨jf,gA,jg,jm,jn,jD⟩:cV)from⟨Rj,Rk,Rl,Rm,Rn,Ro⟩)
 have dm1:decide ((m:Int)<(x2.length:Int))=true:=aD
 have dm2:decide ((m2:Int)<(x2.length:Int))=true:=aD
 have hdI:fD dm:=by unfold fD;omega
 refine eP 9 (fun s f wq=>(cE wr wq)/\(s 0=true->(f 0)=.pointer (some ⟨q,0,none⟩))/\(s 1=true->(f 1)=.pointer (some ⟨q,0,none⟩))/\(s 2=true->(f 2)=.pointer (some ⟨q,2,none⟩))/\(s 3=true->(f 3)=.slice (some ⟨b1,o1,none⟩) x2.length c2)/\(s 4=true->(f 4)=.pointer (some ⟨r4,1,none⟩))/\(s 5=true->(f 5)=.int .i64 (m:Int))/\(s 6=true->(f 6)=.pointer (some ⟨b1,o1+m*5,none⟩))/\(s 7=true->(f 7)=.agg #[.int .i64 8,.int .i64 tag,.int .i64 cR,.slice (some ⟨b3,o3,none⟩) 2 jr,.slice jR 0 jI])/\(s 8=true->BxE wr.heap.size wq (f 8) (.int .i64 0) (.int .i64 0) (.int .i64 0) (.slice none 0 0) (.slice none 0 0))) [(0,some 73),(1,some 74),(2,some 75),(3,some 76),(4,some 77),(5,some 78),(6,some 79),(7,some 80),(8,some 7),(9,none)] rfl aC aC ?hJ rfl ?hstep ?hlast
 case hJ=>exact fun u=>⟨bl,(fun h=>absurd h ai),(fun h=>absurd h ai),(fun h=>absurd h ai),(fun h=>absurd h ai),(fun h=>absurd h ai),(fun h=>absurd h ai),(fun h=>absurd h ai),(fun h=>absurd h ai),(fun h=>absurd h ai)⟩
 case hstep =>
  exact afi
 case hlast =>
  simp only[iT,Act.put,aa,ab,ae,af,ag,ah]
  intro uf wa ⟨s,hall,hJ⟩ K hK
  obtain⟨dt,cQ,cT,dh,du,fi,fj,dM,ju,pX⟩:=hJ
  have Ie:=ju (hall 7 aF)
  have aag:=pX (hall 8 aF)
  clear cQ cT dh du fi fj dM ju pX hall
  obtain⟨re,ere,hre,hoe⟩:=aag
  rw[Ie,ere]at hK |-
  refine wp_store_mid 81 (.tmp 7) (.tmp 80) rfl re 0 #[.int .i64 8,.int .i64 tag,.int .i64 cR,.slice (some ⟨b3,o3,none⟩) 2 jr,.slice jR 0 jI] rfl rfl hoe.QY aC bm ?_
  refine hK.out undef _ ?_
  clear hK
  have OE:=hide (hoe.Yf (.int .i64 8) (.int .i64 tag) (.int .i64 cR) (.slice (some ⟨b3,o3,none⟩) 2 jr) (.slice jR 0 jI))
  have BE:=hide (CK dt hre [.int .i64 8,.int .i64 tag,.int .i64 cR,.slice (some ⟨b3,o3,none⟩) 2 jr,.slice jR 0 jI])
  obtain⟨wz,hwz⟩:∃x,wa.setCells re 0 [.int .i64 8,.int .i64 tag,.int .i64 cR,.slice (some ⟨b3,o3,none⟩) 2 jr,.slice jR 0 jI]=x:=⟨_,rfl⟩
  rw[hwz]at OE BE
  rw[show wa.setCells re 0 (#[Value.int .i64 8,.int .i64 tag,.int .i64 cR,.slice (some ⟨b3,o3,none⟩) 2 jr,.slice jR 0 jI]:Array Value).toList=wz from hwz]
  clear hwz hoe dt Ie ere
  generalize uf 0=z0
  generalize uf 1=z1
  generalize uf 2=z2
  generalize uf 3=z3
  generalize uf 4=z4
  generalize uf 5=z5
  generalize uf 6=z6
  generalize uf 7=z7
  generalize uf 8=z8
  clear uf
  obtain⟨hel,hef,k0,k1,k2,k3,k4⟩:=OE.out
  have hbz:=BE.out
  replace db:=(BE.out.box b1 hw1 _).trans db
  replace de:=(BE.out.box b1 hw1 _).trans de
  replace dq:=(BE.out.box b1 hw1 _).trans dq
  replace dy:=(BE.out.box b1 hw1 _).trans dy
  replace dz:=(BE.out.box b1 hw1 _).trans dz
  replace rU:=(BE.out.box b1 hw1 _).trans rU
  replace rV:=(BE.out.box b1 hw1 _).trans rV
  replace rW:=(BE.out.box b1 hw1 _).trans rW
  replace rX:=(BE.out.box b1 hw1 _).trans rX
  replace oI:=(BE.out.box b1 hw1 _).trans oI
  replace lX:=(BE.out.box b3 hw3 _).trans lX
  replace lY:=(BE.out.box b3 hw3 _).trans lY
  replace lZ:=(BE.out.box b3 hw3 _).trans lZ
  replace l0:=(BE.out.box b3 hw3 _).trans l0
  replace l8:=(BE.out.box b3 hw3 _).trans l8
  replace l9:=(BE.out.box b3 hw3 _).trans l9
  replace rr:=(BE.out.box b3 hw3 _).trans rr
  replace lN:=(BE.out.box q hq 2).trans lN
  have yQ:=ak hw1 hbz.size
  have sQ:=ak hw3 hbz.size
  have lq:=ak hq hbz.size
  go_upto_region 17 with (fail)
  refine eP 12 (fun s f wq=>(cE wz wq)/\(s 0=true->(f 0)=.pointer (some ⟨q,0,none⟩))/\(s 1=true->(f 1)=.pointer (some ⟨q,0,none⟩))/\(s 2=true->(f 2)=.pointer (some ⟨q,2,none⟩))/\(s 3=true->(f 3)=.slice (some ⟨b1,o1,none⟩) x2.length c2)/\(s 4=true->(f 4)=.int .i64 (m2:Int))/\(s 5=true->(f 5)=.pointer (some ⟨b1,o1+m2*5,none⟩))/\(s 6=true->(f 6)=.agg #[.int .i64 3,.int .i64 qJ,.int .i64 qL,.slice Tm its.length Tn,.slice BP keys.length BQ])/\(s 7=true->(f 7)=.pointer (some ⟨re,3,none⟩))/\(s 8=true->(f 8)=.slice (some ⟨b3,o3,none⟩) 2 jr)/\(s 9=true->(f 9)=.pointer (some ⟨b3,o3+6,none⟩))/\(s 10=true->(f 10)=.agg #[.int .i64 jf,.int .i64 gA,.int .i64 jg,.string jm,.int .i64 jn,.int .i64 jD])/\(s 11=true->(f 11)=.int .i64 dm)) [(0,some 86),(1,some 87),(2,some 88),(3,some 89),(4,some 90),(5,some 91),(6,some 92),(7,some 93),(8,some 94),(9,some 95),(10,some 96),(11,some 97),(12,some 9)] rfl aC aC ?hJ rfl ?hstep ?hlast
  case hJ=>exact fun u=>⟨bl,(fun h=>absurd h ai),(fun h=>absurd h ai),(fun h=>absurd h ai),(fun h=>absurd h ai),(fun h=>absurd h ai),(fun h=>absurd h ai),(fun h=>absurd h ai),(fun h=>absurd h ai),(fun h=>absurd h ai),(fun h=>absurd h ai),(fun h=>absurd h ai),(fun h=>absurd h ai)⟩
  case hstep =>
   simp only[iT,Act.put,aa,ab,ae,af,ag,ah]
   refine (cB (i:=0) (i2:=1) (o:=_) rfl ?s0 (cB (i:=1) (i2:=2) (o:=_) rfl ?s1 (cB (i:=2) (i2:=3) (o:=_) rfl ?s2 (cB (i:=3) (i2:=4) (o:=_) rfl ?s3 (cB (i:=4) (i2:=5) (o:=_) rfl ?s4 (cB (i:=5) (i2:=6) (o:=_) rfl ?s5 (cB (i:=6) (i2:=7) (o:=_) rfl ?s6 (cB (i:=7) (i2:=8) (o:=_) rfl ?s7 (cB (i:=8) (i2:=9) (o:=_) rfl ?s8 (cB (i:=9) (i2:=10) (o:=_) rfl ?s9 (cB (i:=10) (i2:=11) (o:=_) rfl ?s10 (cB (i:=11) (i2:=12) (o:=_) rfl ?s11 (gD aF)))))))))))))
   case s0 =>
    intro uf wa s hs ha cl hJ K hK
    obtain⟨dt,cQ,cT,dh,du,dF,dM,ju,eu,dX,ew,ey,jG⟩:=hJ
    simp only[Act.put,aa,ab,ae,af,ag,ah]at hK |-
    go_simp
    exact hK.out _ _ ⟨dt,fun _=>rfl,cT,dh,du,dF,dM,ju,eu,dX,ew,ey,jG⟩
   case s1 =>
    intro uf wa s hs ha cl hJ K hK
    obtain⟨dt,cQ,cT,dh,du,dF,dM,ju,eu,dX,ew,ey,jG⟩:=hJ
    have nm:=cQ (ha 0 aC)
    simp only[Act.put,aa,ab,ae,af,ag,ah]at hK |-
    rw[nm]at hK |-
    go_simp
    exact hK.out _ _ ⟨dt,cQ,fun _=>rfl,dh,du,dF,dM,ju,eu,dX,ew,ey,jG⟩
   case s2 =>
    intro uf wa s hs ha cl hJ K hK
    obtain⟨dt,cQ,cT,dh,du,dF,dM,ju,eu,dX,ew,ey,jG⟩:=hJ
    have pS:=cT (ha 1 aC)
    simp only[Act.put,aa,ab,ae,af,ag,ah]at hK |-
    rw[pS]at hK |-
    go_simp
    exact hK.out _ _ ⟨dt,cQ,cT,fun _=>rfl,du,dF,dM,ju,eu,dX,ew,ey,jG⟩
   case s3 =>
    intro uf wa s hs ha cl hJ K hK
    obtain⟨dt,cQ,cT,dh,du,dF,dM,ju,eu,dX,ew,ey,jG⟩:=hJ
    have sd:=dh (ha 2 aC)
    simp only[Act.put,aa,ab,ae,af,ag,ah]at hK |-
    rw[sd]at hK |-
    have q1:=(dt.box q lq _).trans lN
    go_simp
    exact hK.out _ _ ⟨dt,cQ,cT,dh,fun _=>rfl,dF,dM,ju,eu,dX,ew,ey,jG⟩
   case s4 =>
    intro uf wa s hs ha cl hJ K hK
    obtain⟨dt,cQ,cT,dh,du,dF,dM,ju,eu,dX,ew,ey,jG⟩:=hJ
    simp only[Act.put,aa,ab,ae,af,ag,ah]at hK |-
    go_simp
    exact hK.out _ _ ⟨dt,cQ,cT,dh,du,fun _=>rfl,dM,ju,eu,dX,ew,ey,jG⟩
   case s5 =>
    intro uf wa s hs ha cl hJ K hK
    obtain⟨dt,cQ,cT,dh,du,dF,dM,ju,eu,dX,ew,ey,jG⟩:=hJ
    have tE:=du (ha 3 aC)
    have xa:=dF (ha 4 aC)
    simp only[Act.put,aa,ab,ae,af,ag,ah]at hK |-
    rw[tE]at hK |-
    rw[xa]at hK |-
    go_simp
    exact hK.out _ _ ⟨dt,cQ,cT,dh,du,dF,fun _=>rfl,ju,eu,dX,ew,ey,jG⟩
   case s6 =>
    intro uf wa s hs ha cl hJ K hK
    obtain⟨dt,cQ,cT,dh,du,dF,dM,ju,eu,dX,ew,ey,jG⟩:=hJ
    have xM:=dM (ha 5 aC)
    simp only[Act.put,aa,ab,ae,af,ag,ah]at hK |-
    rw[xM]at hK |-
    have q0:=(dt.box b1 yQ _).trans rU
    have q1:=(dt.box b1 yQ _).trans rV
    have q2:=(dt.box b1 yQ _).trans rW
    have q3:=(dt.box b1 yQ _).trans rX
    have q4:=(dt.box b1 yQ _).trans oI
    go_simp
    exact hK.out _ _ ⟨dt,cQ,cT,dh,du,dF,dM,fun _=>rfl,eu,dX,ew,ey,jG⟩
   case s7 =>
    intro uf wa s hs ha cl hJ K hK
    obtain⟨dt,cQ,cT,dh,du,dF,dM,ju,eu,dX,ew,ey,jG⟩:=hJ
    simp only[Act.put,aa,ab,ae,af,ag,ah]at hK |-
    go_simp
    exact hK.out _ _ ⟨dt,cQ,cT,dh,du,dF,dM,ju,fun _=>rfl,dX,ew,ey,jG⟩
   case s8 =>
    intro uf wa s hs ha cl hJ K hK
    obtain⟨dt,cQ,cT,dh,du,dF,dM,ju,eu,dX,ew,ey,jG⟩:=hJ
    have Ec:=eu (ha 7 aC)
    simp only[Act.put,aa,ab,ae,af,ag,ah]at hK |-
    rw[Ec]at hK |-
    have q1:=(dt.box re hel _).trans k3
    go_simp
    exact hK.out _ _ ⟨dt,cQ,cT,dh,du,dF,dM,ju,eu,fun _=>rfl,ew,ey,jG⟩
   case s9 =>
    intro uf wa s hs ha cl hJ K hK
    obtain⟨dt,cQ,cT,dh,du,dF,dM,ju,eu,dX,ew,ey,jG⟩:=hJ
    have wY:=dX (ha 8 aC)
    simp only[Act.put,aa,ab,ae,af,ag,ah]at hK |-
    rw[wY]at hK |-
    go_simp
    exact hK.out _ _ ⟨dt,cQ,cT,dh,du,dF,dM,ju,eu,dX,fun _=>rfl,ey,jG⟩
   case s10 =>
    intro uf wa s hs ha cl hJ K hK
    obtain⟨dt,cQ,cT,dh,du,dF,dM,ju,eu,dX,ew,ey,jG⟩:=hJ
    have Ed:=ew (ha 9 aC)
    simp only[Act.put,aa,ab,ae,af,ag,ah]at hK |-
    rw[Ed]at hK |-
    have q0:=(dt.box b3 sQ _).trans lX
    have q1:=(dt.box b3 sQ _).trans lY
    have q2:=(dt.box b3 sQ _).trans lZ
    have q3:=(dt.box b3 sQ _).trans l0
    have q4:=(dt.box b3 sQ _).trans l8
    have q5:=(dt.box b3 sQ _).trans l9
    go_simp
    exact hK.out _ _ ⟨dt,cQ,cT,dh,du,dF,dM,ju,eu,dX,ew,fun _=>rfl,jG⟩
   case s11 =>
    intro uf wa s hs ha cl hJ K hK
    obtain⟨dt,cQ,cT,dh,du,dF,dM,ju,eu,dX,ew,ey,jG⟩:=hJ
    have Ie:=ju (ha 6 aC)
    have Ee:=ey (ha 10 aC)
    simp only[Act.put,aa,ab,ae,af,ag,ah]at hK |-
    rw[Ie]at hK |-
    rw[Ee]at hK |-
    go_simp
    go_at_call 79
    (with_reducible refine (S6 3 qJ qL its keys (⟨jf,gA,jg,jm,jn,jD⟩:cV) _ _ Tm BP Tn BQ (Row.bel (cE.trans BE.out dt) yK.out) HKO.out).mono ?_)
    rintro e w5 ⟨rfl,hb5⟩
    rw[HD.out]
    exact hK.out _ _ ⟨dt.trans hb5,cQ,cT,dh,du,dF,dM,ju,eu,dX,ew,ey,fun _=>rfl⟩
  case hlast =>
   simp only[iT,Act.put,aa,ab,ae,af,ag,ah]
   intro uf wa ⟨s,hall,hJ⟩ K hK
   obtain⟨dt,cQ,cT,dh,du,dF,dM,ju,eu,dX,ew,ey,jG⟩:=hJ
   have Rp:=jG (hall 11 aF)
   clear cQ cT dh du dF dM ju eu dX ew ey jG hall
   rw[Rp]at hK |-
   go_simp
   refine hK.out _ _ ?_
   clear hK Rp
   generalize uf 0=y0
   generalize uf 1=y1
   generalize uf 2=y2
   generalize uf 3=y3
   generalize uf 4=y4
   generalize uf 5=y5
   generalize uf 6=y6
   generalize uf 7=y7
   generalize uf 8=y8
   generalize uf 9=y9
   generalize uf 10=sB
   generalize uf 11=sC
   clear uf
   obtain⟨w2,hw2⟩:∃x,wa=x:=⟨_,rfl⟩
   rw[hw2]at dt |-
   clear hw2 wa
   have hbw2:=hbr.trans (cE.trans BE.out dt)
   have W2:=hide (W1.out.on (cE.trans BE.out dt))
   have pW:=hide (R5.out.on (cE.trans BE.out dt))
   have OE2:=hide (OE.out.on dt)
   have hNw:N<=w2.heap.size:=al hN hbw2.size
   replace lN:=(dt.box q lq 2).trans lN
   replace rU:=(dt.box b1 yQ _).trans rU
   replace rV:=(dt.box b1 yQ _).trans rV
   replace rW:=(dt.box b1 yQ _).trans rW
   replace rX:=(dt.box b1 yQ _).trans rX
   replace oI:=(dt.box b1 yQ _).trans oI
   replace lX:=(dt.box b3 sQ _).trans lX
   replace lY:=(dt.box b3 sQ _).trans lY
   replace lZ:=(dt.box b3 sQ _).trans lZ
   replace l0:=(dt.box b3 sQ _).trans l0
   replace l8:=(dt.box b3 sQ _).trans l8
   replace l9:=(dt.box b3 sQ _).trans l9
   have Yg:=ak lq dt.size
   have aah:=ak yQ dt.size
   have yq:=ak sQ dt.size
   clear hel hef k0 k1 k2 k3 k4 W1 R5 OE BE R4 dt
   obtain⟨hel,hef,k0,k1,k2,k3,k4⟩:=OE2.out
   by_cases h0:0<=dm
   case pos =>
    have d0:decide (0<=dm)=true:=ar h0
    have RR:=hide (R1.out h0)
    have hjd:d<its.length:=by have:=HLEN.out;omega
    have sm:IntKind.i64.wrap (1+dm)=(d:Int):=bf
    have sm2:IntKind.i64.wrap (d:Int)=(d:Int):=bf
    have ddm:decide ((d:Int)<(its.length:Int))=true:=aD
    go_upto_region 19 with (fail)
    (try simp only[d0])
    clear d0
    obtain⟨gs,os,cs,g3,TH,c3s,TI,aai,hgs,aiT,⟨hcs,hms,hcs3,aaj⟩,Gl⟩:=W2.out.CI hNw hm2 ht hjd
    unfold maxLen at hms aaj
    have HPS:=hide Gl
    clear Gl
    obtain⟨kg,-,rfl⟩:=slice_inj (lN.symm.trans TI)
    obtain⟨rfl,rfl⟩:b1=gs/\o1=os:=by simpa using kg
    clear kg
    refine eP 12 (fun s f wq=>(cE w2 wq)/\(s 0=true->(f 0)=.pointer (some ⟨q,0,none⟩))/\(s 1=true->(f 1)=.pointer (some ⟨q,0,none⟩))/\(s 2=true->(f 2)=.pointer (some ⟨q,2,none⟩))/\(s 3=true->(f 3)=.slice (some ⟨b1,o1,none⟩) x2.length c2)/\(s 4=true->(f 4)=.int .i64 (m2:Int))/\(s 5=true->(f 5)=.pointer (some ⟨b1,o1+m2*5,none⟩))/\(s 6=true->(f 6)=.pointer (some ⟨b1,o1+m2*5+3,none⟩))/\(s 7=true->(f 7)=.slice (some ⟨g3,TH,none⟩) its.length c3s)/\(s 8=true->(f 8)=.int .i64 dm)/\(s 9=true->(f 9)=.int .i64 (d:Int))/\(s 10=true->(f 10)=.agg #[.int .i64 vk,.int .i64 vn,.int .i64 vi,.string vt,.int .i64 vl,.int .i64 vh])/\(s 11=true->(f 11)=.pointer (some ⟨g3,TH+d*6,none⟩))) [(0,some 100),(1,some 101),(2,some 102),(3,some 103),(4,some 104),(5,some 105),(6,some 106),(7,some 107),(8,some 108),(9,some 109),(10,some 110),(11,some 111),(12,none)] rfl aC aC ?hJ rfl ?hstep ?hlast
    case hJ=>exact fun u=>⟨bl,(fun h=>absurd h ai),(fun h=>absurd h ai),(fun h=>absurd h ai),(fun h=>absurd h ai),(fun h=>absurd h ai),(fun h=>absurd h ai),(fun h=>absurd h ai),(fun h=>absurd h ai),(fun h=>absurd h ai),(fun h=>absurd h ai),(fun h=>absurd h ai),(fun h=>absurd h ai)⟩
    case hstep =>
     simp only[iT,Act.put,aa,ab,ae,af,ag,ah]
     refine (cB (i:=0) (i2:=1) (o:=_) rfl ?s0 (cB (i:=1) (i2:=2) (o:=_) rfl ?s1 (cB (i:=2) (i2:=3) (o:=_) rfl ?s2 (cB (i:=3) (i2:=4) (o:=_) rfl ?s3 (cB (i:=4) (i2:=5) (o:=_) rfl ?s4 (cB (i:=5) (i2:=6) (o:=_) rfl ?s5 (cB (i:=6) (i2:=7) (o:=_) rfl ?s6 (cB (i:=7) (i2:=8) (o:=_) rfl ?s7 (cB (i:=8) (i2:=9) (o:=_) rfl ?s8 (cB (i:=9) (i2:=10) (o:=_) rfl ?s9 (cB (i:=10) (i2:=11) (o:=_) rfl ?s10 (cB (i:=11) (i2:=12) (o:=_) rfl ?s11 (gD aF)))))))))))))
     case s0 =>
      intro uf wa s hs ha cl hJ K hK
      obtain⟨dt,cQ,cT,dh,du,dF,dM,eD,ei,jU,jV,dC,eO⟩:=hJ
      simp only[Act.put,aa,ab,ae,af,ag,ah]at hK |-
      go_simp
      exact hK.out _ _ ⟨dt,fun _=>rfl,cT,dh,du,dF,dM,eD,ei,jU,jV,dC,eO⟩
     case s1 =>
      intro uf wa s hs ha cl hJ K hK
      obtain⟨dt,cQ,cT,dh,du,dF,dM,eD,ei,jU,jV,dC,eO⟩:=hJ
      have nm:=cQ (ha 0 aC)
      simp only[Act.put,aa,ab,ae,af,ag,ah]at hK |-
      rw[nm]at hK |-
      go_simp
      exact hK.out _ _ ⟨dt,cQ,fun _=>rfl,dh,du,dF,dM,eD,ei,jU,jV,dC,eO⟩
     case s2 =>
      intro uf wa s hs ha cl hJ K hK
      obtain⟨dt,cQ,cT,dh,du,dF,dM,eD,ei,jU,jV,dC,eO⟩:=hJ
      have pS:=cT (ha 1 aC)
      simp only[Act.put,aa,ab,ae,af,ag,ah]at hK |-
      rw[pS]at hK |-
      go_simp
      exact hK.out _ _ ⟨dt,cQ,cT,fun _=>rfl,du,dF,dM,eD,ei,jU,jV,dC,eO⟩
     case s3 =>
      intro uf wa s hs ha cl hJ K hK
      obtain⟨dt,cQ,cT,dh,du,dF,dM,eD,ei,jU,jV,dC,eO⟩:=hJ
      have sd:=dh (ha 2 aC)
      simp only[Act.put,aa,ab,ae,af,ag,ah]at hK |-
      rw[sd]at hK |-
      have q1:=(dt.box q Yg _).trans TI
      go_simp
      exact hK.out _ _ ⟨dt,cQ,cT,dh,fun _=>rfl,dF,dM,eD,ei,jU,jV,dC,eO⟩
     case s4 =>
      intro uf wa s hs ha cl hJ K hK
      obtain⟨dt,cQ,cT,dh,du,dF,dM,eD,ei,jU,jV,dC,eO⟩:=hJ
      simp only[Act.put,aa,ab,ae,af,ag,ah]at hK |-
      go_simp
      exact hK.out _ _ ⟨dt,cQ,cT,dh,du,fun _=>rfl,dM,eD,ei,jU,jV,dC,eO⟩
     case s5 =>
      intro uf wa s hs ha cl hJ K hK
      obtain⟨dt,cQ,cT,dh,du,dF,dM,eD,ei,jU,jV,dC,eO⟩:=hJ
      have tE:=du (ha 3 aC)
      have xa:=dF (ha 4 aC)
      simp only[Act.put,aa,ab,ae,af,ag,ah]at hK |-
      rw[tE]at hK |-
      rw[xa]at hK |-
      go_simp
      exact hK.out _ _ ⟨dt,cQ,cT,dh,du,dF,fun _=>rfl,eD,ei,jU,jV,dC,eO⟩
     case s6 =>
      intro uf wa s hs ha cl hJ K hK
      obtain⟨dt,cQ,cT,dh,du,dF,dM,eD,ei,jU,jV,dC,eO⟩:=hJ
      have xM:=dM (ha 5 aC)
      simp only[Act.put,aa,ab,ae,af,ag,ah]at hK |-
      rw[xM]at hK |-
      go_simp
      exact hK.out _ _ ⟨dt,cQ,cT,dh,du,dF,dM,fun _=>rfl,ei,jU,jV,dC,eO⟩
     case s7 =>
      intro uf wa s hs ha cl hJ K hK
      obtain⟨dt,cQ,cT,dh,du,dF,dM,eD,ei,jU,jV,dC,eO⟩:=hJ
      have Ef:=eD (ha 6 aC)
      simp only[Act.put,aa,ab,ae,af,ag,ah]at hK |-
      rw[Ef]at hK |-
      have q1:=(dt.box b1 hgs _).trans aai
      go_simp
      exact hK.out _ _ ⟨dt,cQ,cT,dh,du,dF,dM,eD,fun _=>rfl,jU,jV,dC,eO⟩
     case s8 =>
      intro uf wa s hs ha cl hJ K hK
      obtain⟨dt,cQ,cT,dh,du,dF,dM,eD,ei,jU,jV,dC,eO⟩:=hJ
      simp only[Act.put,aa,ab,ae,af,ag,ah]at hK |-
      go_simp
      exact hK.out _ _ ⟨dt,cQ,cT,dh,du,dF,dM,eD,ei,fun _=>rfl,jV,dC,eO⟩
     case s9 =>
      intro uf wa s hs ha cl hJ K hK
      obtain⟨dt,cQ,cT,dh,du,dF,dM,eD,ei,jU,jV,dC,eO⟩:=hJ
      have aak:=jU (ha 8 aC)
      simp only[Act.put,aa,ab,ae,af,ag,ah]at hK |-
      rw[aak]at hK |-
      go_simp
      exact hK.out _ _ ⟨dt,cQ,cT,dh,du,dF,dM,eD,ei,jU,fun _=>rfl,dC,eO⟩
     case s10 =>
      intro uf wa s hs ha cl hJ K hK
      obtain⟨dt,cQ,cT,dh,du,dF,dM,eD,ei,jU,jV,dC,eO⟩:=hJ
      simp only[Act.put,aa,ab,ae,af,ag,ah]at hK |-
      have q0:=(dt.box r5 pW.out.lt 0).trans pW.out.c0
      have q1:=(dt.box r5 pW.out.lt 1).trans pW.out.c1
      have q2:=(dt.box r5 pW.out.lt 2).trans pW.out.c2
      have q3:=(dt.box r5 pW.out.lt 3).trans pW.out.c3
      have q4:=(dt.box r5 pW.out.lt 4).trans pW.out.c4
      have q5:=(dt.box r5 pW.out.lt 5).trans pW.out.c5
      go_simp
      exact hK.out _ _ ⟨dt,cQ,cT,dh,du,dF,dM,eD,ei,jU,jV,fun _=>rfl,eO⟩
     case s11 =>
      intro uf wa s hs ha cl hJ K hK
      obtain⟨dt,cQ,cT,dh,du,dF,dM,eD,ei,jU,jV,dC,eO⟩:=hJ
      have Bj:=ei (ha 7 aC)
      have aal:=jV (ha 9 aC)
      simp only[Act.put,aa,ab,ae,af,ag,ah]at hK |-
      rw[Bj]at hK |-
      rw[aal]at hK |-
      go_simp
      exact hK.out _ _ ⟨dt,cQ,cT,dh,du,dF,dM,eD,ei,jU,jV,dC,fun _=>rfl⟩
    case hlast =>
     simp only[iT,Act.put,aa,ab,ae,af,ag,ah]
     intro uf wa ⟨s,hall,hJ⟩ K hK
     obtain⟨dt,cQ,cT,dh,du,dF,dM,eD,ei,jU,jV,dC,eO⟩:=hJ
     have ry:=eO (hall 11 aF)
     have mZ:=dC (hall 10 aF)
     clear cQ cT dh du dF dM eD ei jU jV dC eO hall
     rw[ry,mZ]at hK |-
     obtain⟨hth,hput⟩:=HPS.out wa dt
     refine wp_store_mid 34 (.tmp 111) (.tmp 110) rfl g3 (TH+d*6) #[.int .i64 vk,.int .i64 vn,.int .i64 vi,.string vt,.int .i64 vl,.int .i64 vh] rfl rfl hth aC bm ?_
     exact Yh
   have d0:decide (0<=dm)=false:=aq h0
   by_cases h40:40<=keys.length
   case pos =>
    exact afk
   have d40:decide ((40:Int)<=(keys.length:Int))=false:=aD
   have RR:=hide (R3.out aB aB)
   go_upto_region 23 with (fail)
   (try simp only[d0,d40])
   (try rw[show decide (40<=keys.length)=false from aq aB])
   clear d0 d40
   obtain⟨iv,Ek,Mj,Mk,Ml⟩:=info_parts xf
   refine eP 21 (fun s f wq=>(s 18=false->cE w2 wq)/\(wq.cell? ⟨q,2,none⟩=some (.slice (some ⟨b1,o1,none⟩) x2.length c2))/\(s 0=true->(f 0)=.pointer (some ⟨q,0,none⟩))/\(s 1=true->(f 1)=.pointer (some ⟨q,0,none⟩))/\(s 2=true->(f 2)=.pointer (some ⟨q,2,none⟩))/\(s 3=true->(f 3)=.slice (some ⟨b1,o1,none⟩) x2.length c2)/\(s 4=true->(f 4)=.int .i64 (m2:Int))/\(s 5=true->(f 5)=.pointer (some ⟨q,0,none⟩))/\(s 6=true->(f 6)=.pointer (some ⟨q,0,none⟩))/\(s 7=true->(f 7)=.pointer (some ⟨q,2,none⟩))/\(s 8=true->(f 8)=.slice (some ⟨b1,o1,none⟩) x2.length c2)/\(s 9=true->(f 9)=.int .i64 (m2:Int))/\(s 10=true->(f 10)=.pointer (some ⟨b1,o1+m2*5,none⟩))/\(s 11=true->(f 11)=.pointer (some ⟨b1,o1+m2*5+4,none⟩))/\(s 12=true->(f 12)=.slice BP keys.length BQ)/\(s 13=true->(f 13)=.pointer (some ⟨re,3,none⟩))/\(s 14=true->(f 14)=.slice (some ⟨b3,o3,none⟩) 2 jr)/\(s 15=true->(f 15)=.pointer (some ⟨b3,o3+6,none⟩))/\(s 16=true->(f 16)=.agg #[.int .i64 jf,.int .i64 gA,.int .i64 jg,.string jm,.int .i64 jn,.int .i64 jD])/\(s 17=true->s 18=false->Eb w2.heap.size wq (f 17) #[.int .i64 jf,.int .i64 gA,.int .i64 jg,.string jm,.int .i64 jn,.int .i64 jD] 34)/\(s 18=true->Gh N w w2 wq q b1 (o1+m2*5+4) (.slice BP keys.length BQ) (keys.length+1) vs (cv.mk x0 x1 (x2.set m2 (.mk 3 qJ qL its (keys++[(cw.mk jf gA jg jm jn jD)]))) x3 x4 x5 x6 x7 x8 x9 x10 x11 x12) w.heap.size (.slice (some ⟨b1,o1,none⟩) x2.length c2) (f 18))/\(s 19=true->(f 19)=.pointer (some ⟨b1,o1+m2*5,none⟩))/\(s 20=true->(f 20)=.pointer (some ⟨b1,o1+m2*5+4,none⟩))) [(0,some 122),(1,some 123),(2,some 124),(3,some 125),(4,some 126),(5,some 127),(6,some 128),(7,some 129),(8,some 130),(9,some 131),(10,some 132),(11,some 133),(12,some 134),(13,some 135),(14,some 136),(15,some 137),(16,some 138),(17,some 139),(18,some 140),(19,some 141),(20,some 142),(21,none)] rfl aC aC ?hJ rfl ?hstep ?hlast
   case hJ=>exact fun u=>⟨fun _=>bl,(cE.box (W:=w2) bl q Yg 2).trans lN,(fun h=>absurd h ai),(fun h=>absurd h ai),(fun h=>absurd h ai),(fun h=>absurd h ai),(fun h=>absurd h ai),(fun h=>absurd h ai),(fun h=>absurd h ai),(fun h=>absurd h ai),(fun h=>absurd h ai),(fun h=>absurd h ai),(fun h=>absurd h ai),(fun h=>absurd h ai),(fun h=>absurd h ai),(fun h=>absurd h ai),(fun h=>absurd h ai),(fun h=>absurd h ai),(fun h=>absurd h ai),(fun h _=>absurd h ai),(fun h=>absurd h ai),(fun h=>absurd h ai),(fun h=>absurd h ai)⟩
   case hstep =>
    simp only[iT,Act.put,aa,ab,ae,af,ag,ah]
    refine (cB (i:=0) (i2:=1) (o:=_) rfl ?s0 (cB (i:=1) (i2:=2) (o:=_) rfl ?s1 (cB (i:=2) (i2:=3) (o:=_) rfl ?s2 (cB (i:=3) (i2:=4) (o:=_) rfl ?s3 (cB (i:=4) (i2:=5) (o:=_) rfl ?s4 (cB (i:=5) (i2:=6) (o:=_) rfl ?s5 (cB (i:=6) (i2:=7) (o:=_) rfl ?s6 (cB (i:=7) (i2:=8) (o:=_) rfl ?s7 (cB (i:=8) (i2:=9) (o:=_) rfl ?s8 (cB (i:=9) (i2:=10) (o:=_) rfl ?s9 (cB (i:=10) (i2:=11) (o:=_) rfl ?s10 (cB (i:=11) (i2:=12) (o:=_) rfl ?s11 (cB (i:=12) (i2:=13) (o:=_) rfl ?s12 (cB (i:=13) (i2:=14) (o:=_) rfl ?s13 (cB (i:=14) (i2:=15) (o:=_) rfl ?s14 (cB (i:=15) (i2:=16) (o:=_) rfl ?s15 (cB (i:=16) (i2:=17) (o:=_) rfl ?s16 (cB (i:=17) (i2:=18) (o:=_) rfl ?s17 (cB (i:=18) (i2:=19) (o:=_) rfl ?s18 (cB (i:=19) (i2:=20) (o:=_) rfl ?s19 (cB (i:=20) (i2:=21) (o:=_) rfl ?s20 (gD aF))))))))))))))))))))))
    case s0 =>
     intro uf wa s hs ha cl hJ K hK
     obtain⟨dt,eE,cQ,cT,dh,du,dF,eQ,dK,eR,eS,dL,eT,ek,ep,eu,dX,ew,ey,eK,eL,eU,eF⟩:=hJ
     simp only[Act.put,aa,ab,ae,af,ag,ah]at hK |-
     go_simp
     exact hK.out _ _ ⟨dt,eE,fun _=>rfl,cT,dh,du,dF,eQ,dK,eR,eS,dL,eT,ek,ep,eu,dX,ew,ey,eK,eL,eU,eF⟩
    case s1 =>
     intro uf wa s hs ha cl hJ K hK
     obtain⟨dt,eE,cQ,cT,dh,du,dF,eQ,dK,eR,eS,dL,eT,ek,ep,eu,dX,ew,ey,eK,eL,eU,eF⟩:=hJ
     have nm:=cQ (ha 0 aC)
     simp only[Act.put,aa,ab,ae,af,ag,ah]at hK |-
     rw[nm]at hK |-
     go_simp
     exact hK.out _ _ ⟨dt,eE,cQ,fun _=>rfl,dh,du,dF,eQ,dK,eR,eS,dL,eT,ek,ep,eu,dX,ew,ey,eK,eL,eU,eF⟩
    case s2 =>
     intro uf wa s hs ha cl hJ K hK
     obtain⟨dt,eE,cQ,cT,dh,du,dF,eQ,dK,eR,eS,dL,eT,ek,ep,eu,dX,ew,ey,eK,eL,eU,eF⟩:=hJ
     have pS:=cT (ha 1 aC)
     simp only[Act.put,aa,ab,ae,af,ag,ah]at hK |-
     rw[pS]at hK |-
     go_simp
     exact hK.out _ _ ⟨dt,eE,cQ,cT,fun _=>rfl,du,dF,eQ,dK,eR,eS,dL,eT,ek,ep,eu,dX,ew,ey,eK,eL,eU,eF⟩
    case s3 =>
     intro uf wa s hs ha cl hJ K hK
     obtain⟨dt,eE,cQ,cT,dh,du,dF,eQ,dK,eR,eS,dL,eT,ek,ep,eu,dX,ew,ey,eK,eL,eU,eF⟩:=hJ
     have sd:=dh (ha 2 aC)
     simp only[Act.put,aa,ab,ae,af,ag,ah]at hK |-
     rw[sd]at hK |-
     have q1:=eE
     go_simp
     exact hK.out _ _ ⟨dt,eE,cQ,cT,dh,fun _=>rfl,dF,eQ,dK,eR,eS,dL,eT,ek,ep,eu,dX,ew,ey,eK,eL,eU,eF⟩
    case s4 =>
     intro uf wa s hs ha cl hJ K hK
     obtain⟨dt,eE,cQ,cT,dh,du,dF,eQ,dK,eR,eS,dL,eT,ek,ep,eu,dX,ew,ey,eK,eL,eU,eF⟩:=hJ
     simp only[Act.put,aa,ab,ae,af,ag,ah]at hK |-
     go_simp
     exact hK.out _ _ ⟨dt,eE,cQ,cT,dh,du,fun _=>rfl,eQ,dK,eR,eS,dL,eT,ek,ep,eu,dX,ew,ey,eK,eL,eU,eF⟩
    case s5 =>
     intro uf wa s hs ha cl hJ K hK
     obtain⟨dt,eE,cQ,cT,dh,du,dF,eQ,dK,eR,eS,dL,eT,ek,ep,eu,dX,ew,ey,eK,eL,eU,eF⟩:=hJ
     simp only[Act.put,aa,ab,ae,af,ag,ah]at hK |-
     go_simp
     exact hK.out _ _ ⟨dt,eE,cQ,cT,dh,du,dF,fun _=>rfl,dK,eR,eS,dL,eT,ek,ep,eu,dX,ew,ey,eK,eL,eU,eF⟩
    case s6 =>
     intro uf wa s hs ha cl hJ K hK
     obtain⟨dt,eE,cQ,cT,dh,du,dF,eQ,dK,eR,eS,dL,eT,ek,ep,eu,dX,ew,ey,eK,eL,eU,eF⟩:=hJ
     have Rq:=eQ (ha 5 aC)
     simp only[Act.put,aa,ab,ae,af,ag,ah]at hK |-
     rw[Rq]at hK |-
     go_simp
     exact hK.out _ _ ⟨dt,eE,cQ,cT,dh,du,dF,eQ,fun _=>rfl,eR,eS,dL,eT,ek,ep,eu,dX,ew,ey,eK,eL,eU,eF⟩
    case s7 =>
     intro uf wa s hs ha cl hJ K hK
     obtain⟨dt,eE,cQ,cT,dh,du,dF,eQ,dK,eR,eS,dL,eT,ek,ep,eu,dX,ew,ey,eK,eL,eU,eF⟩:=hJ
     have Bk:=dK (ha 6 aC)
     simp only[Act.put,aa,ab,ae,af,ag,ah]at hK |-
     rw[Bk]at hK |-
     go_simp
     exact hK.out _ _ ⟨dt,eE,cQ,cT,dh,du,dF,eQ,dK,fun _=>rfl,eS,dL,eT,ek,ep,eu,dX,ew,ey,eK,eL,eU,eF⟩
    case s8 =>
     intro uf wa s hs ha cl hJ K hK
     obtain⟨dt,eE,cQ,cT,dh,du,dF,eQ,dK,eR,eS,dL,eT,ek,ep,eu,dX,ew,ey,eK,eL,eU,eF⟩:=hJ
     have Rr:=eR (ha 7 aC)
     simp only[Act.put,aa,ab,ae,af,ag,ah]at hK |-
     rw[Rr]at hK |-
     have q1:=eE
     go_simp
     exact hK.out _ _ ⟨dt,eE,cQ,cT,dh,du,dF,eQ,dK,eR,fun _=>rfl,dL,eT,ek,ep,eu,dX,ew,ey,eK,eL,eU,eF⟩
    case s9 =>
     intro uf wa s hs ha cl hJ K hK
     obtain⟨dt,eE,cQ,cT,dh,du,dF,eQ,dK,eR,eS,dL,eT,ek,ep,eu,dX,ew,ey,eK,eL,eU,eF⟩:=hJ
     simp only[Act.put,aa,ab,ae,af,ag,ah]at hK |-
     go_simp
     exact hK.out _ _ ⟨dt,eE,cQ,cT,dh,du,dF,eQ,dK,eR,eS,fun _=>rfl,eT,ek,ep,eu,dX,ew,ey,eK,eL,eU,eF⟩
    case s10 =>
     intro uf wa s hs ha cl hJ K hK
     obtain⟨dt,eE,cQ,cT,dh,du,dF,eQ,dK,eR,eS,dL,eT,ek,ep,eu,dX,ew,ey,eK,eL,eU,eF⟩:=hJ
     have Rs:=eS (ha 8 aC)
     have Bl:=dL (ha 9 aC)
     simp only[Act.put,aa,ab,ae,af,ag,ah]at hK |-
     rw[Rs]at hK |-
     rw[Bl]at hK |-
     go_simp
     exact hK.out _ _ ⟨dt,eE,cQ,cT,dh,du,dF,eQ,dK,eR,eS,dL,fun _=>rfl,ek,ep,eu,dX,ew,ey,eK,eL,eU,eF⟩
    case s11 =>
     intro uf wa s hs ha cl hJ K hK
     obtain⟨dt,eE,cQ,cT,dh,du,dF,eQ,dK,eR,eS,dL,eT,ek,ep,eu,dX,ew,ey,eK,eL,eU,eF⟩:=hJ
     have Rt:=eT (ha 10 aC)
     simp only[Act.put,aa,ab,ae,af,ag,ah]at hK |-
     rw[Rt]at hK |-
     go_simp
     exact hK.out _ _ ⟨dt,eE,cQ,cT,dh,du,dF,eQ,dK,eR,eS,dL,eT,fun _=>rfl,ep,eu,dX,ew,ey,eK,eL,eU,eF⟩
    case s12 =>
     intro uf wa s hs ha cl hJ K hK
     obtain⟨dt,eE,cQ,cT,dh,du,dF,eQ,dK,eR,eS,dL,eT,ek,ep,eu,dX,ew,ey,eK,eL,eU,eF⟩:=hJ
     have Eg:=ek (ha 11 aC)
     have hap:s 18=false:=by
      cases hq:s 18 with
      | false=>rfl
      | true=>exact absurd (cl 18 hq 12 aC) aZ
     have hB:=dt hap
     simp only[Act.put,aa,ab,ae,af,ag,ah]at hK |-
     rw[Eg]at hK |-
     have q1:=(hB.box b1 aah _).trans oI
     go_simp
     exact hK.out _ _ ⟨dt,eE,cQ,cT,dh,du,dF,eQ,dK,eR,eS,dL,eT,ek,fun _=>rfl,eu,dX,ew,ey,eK,eL,eU,eF⟩
    case s13 =>
     intro uf wa s hs ha cl hJ K hK
     obtain⟨dt,eE,cQ,cT,dh,du,dF,eQ,dK,eR,eS,dL,eT,ek,ep,eu,dX,ew,ey,eK,eL,eU,eF⟩:=hJ
     simp only[Act.put,aa,ab,ae,af,ag,ah]at hK |-
     go_simp
     exact hK.out _ _ ⟨dt,eE,cQ,cT,dh,du,dF,eQ,dK,eR,eS,dL,eT,ek,ep,fun _=>rfl,dX,ew,ey,eK,eL,eU,eF⟩
    case s14 =>
     intro uf wa s hs ha cl hJ K hK
     obtain⟨dt,eE,cQ,cT,dh,du,dF,eQ,dK,eR,eS,dL,eT,ek,ep,eu,dX,ew,ey,eK,eL,eU,eF⟩:=hJ
     have Ec:=eu (ha 13 aC)
     have hap:s 18=false:=by
      cases hq:s 18 with
      | false=>rfl
      | true=>exact absurd (cl 15 (cl 16 (cl 17 (cl 18 hq 17 aC) 16 aC) 15 aC) 14 aC) aZ
     have hB:=dt hap
     simp only[Act.put,aa,ab,ae,af,ag,ah]at hK |-
     rw[Ec]at hK |-
     have q1:=(hB.box re hel _).trans k3
     go_simp
     exact hK.out _ _ ⟨dt,eE,cQ,cT,dh,du,dF,eQ,dK,eR,eS,dL,eT,ek,ep,eu,fun _=>rfl,ew,ey,eK,eL,eU,eF⟩
    case s15 =>
     intro uf wa s hs ha cl hJ K hK
     obtain⟨dt,eE,cQ,cT,dh,du,dF,eQ,dK,eR,eS,dL,eT,ek,ep,eu,dX,ew,ey,eK,eL,eU,eF⟩:=hJ
     have wY:=dX (ha 14 aC)
     simp only[Act.put,aa,ab,ae,af,ag,ah]at hK |-
     rw[wY]at hK |-
     go_simp
     exact hK.out _ _ ⟨dt,eE,cQ,cT,dh,du,dF,eQ,dK,eR,eS,dL,eT,ek,ep,eu,dX,fun _=>rfl,ey,eK,eL,eU,eF⟩
    case s16 =>
     intro uf wa s hs ha cl hJ K hK
     obtain⟨dt,eE,cQ,cT,dh,du,dF,eQ,dK,eR,eS,dL,eT,ek,ep,eu,dX,ew,ey,eK,eL,eU,eF⟩:=hJ
     have Ed:=ew (ha 15 aC)
     have hap:s 18=false:=by
      cases hq:s 18 with
      | false=>rfl
      | true=>exact absurd (cl 17 (cl 18 hq 17 aC) 16 aC) aZ
     have hB:=dt hap
     simp only[Act.put,aa,ab,ae,af,ag,ah]at hK |-
     rw[Ed]at hK |-
     have q0:=(hB.box b3 yq _).trans lX
     have q1:=(hB.box b3 yq _).trans lY
     have q2:=(hB.box b3 yq _).trans lZ
     have q3:=(hB.box b3 yq _).trans l0
     have q4:=(hB.box b3 yq _).trans l8
     have q5:=(hB.box b3 yq _).trans l9
     go_simp
     exact hK.out _ _ ⟨dt,eE,cQ,cT,dh,du,dF,eQ,dK,eR,eS,dL,eT,ek,ep,eu,dX,ew,fun _=>rfl,eK,eL,eU,eF⟩
    case s17 =>
     intro uf wa s hs ha cl hJ K hK
     obtain⟨dt,eE,cQ,cT,dh,du,dF,eQ,dK,eR,eS,dL,eT,ek,ep,eu,dX,ew,ey,eK,eL,eU,eF⟩:=hJ
     have Ee:=ey (ha 16 aC)
     have hap:s 18=false:=by
      cases hq:s 18 with
      | false=>rfl
      | true=>exact absurd (cl 18 hq 17 aC) aZ
     have hB:=dt hap
     simp only[Act.put,aa,ab,ae,af,ag,ah]at hK |-
     rw[Ee]at hK |-
     have BB:=cE.size hB
     have hbx:cE wa (wa.alloc (.cells #[.int .i64 jf,.int .i64 gA,.int .i64 jg,.string jm,.int .i64 jn,.int .i64 jD] 34)):=bl
     go_simp
     exact hK.out _ _ ⟨fun h=>(dt h).trans hbx,(hbx.box q (ak Yg BB) 2).trans eE,cQ,cT,dh,du,dF,eQ,dK,eR,eS,dL,eT,ek,ep,eu,dX,ew,ey,fun _ _=>⟨wa.heap.size,rfl,BB,heap_alloc_new _ _⟩,fun h=>absurd (hap.symm.trans h) ai,eU,eF⟩
    case s18 =>
     intro uf wa s hs ha cl hJ K hK
     obtain⟨dt,eE,cQ,cT,dh,du,dF,eQ,dK,eR,eS,dL,eT,ek,ep,eu,dX,ew,ey,eK,eL,eU,eF⟩:=hJ
     have Eh:=ep (ha 12 aC)
     have Ig:=eK (ha 17 aC)
     have hap:s 18=false:=hs
     have hB:=dt hap
     simp only[Act.put,aa,ab,ae,af,ag,ah]at hK |-
     rw[Eh]at hK |-
     obtain⟨gl,Ih,aam,Ii⟩:=Ig hap
     rw[Ih]at hK |-
     refine nF (.tmp 134) (.tmp 139) 27 rfl 34 iv (.agg #[.int .i64 0,.int .i64 0,.int .i64 0,.string ByteArray.empty,.int .i64 0,.int .i64 0]) Tryz.underlying27 Ek Mj Mk Ml aF (Gk.out.bel (cE.trans hbw2 hB)) HN4.out HKO.out rfl rfl (Eb.src Ii) aB fun A9 c9 L9 w9 h2 h3 h4 h5=>?_
     have hba:=cE.trans hbw2 hB
     obtain⟨p1,p2,p3,p4,p5⟩:=HPK.out w9 A9 c9 L9 (keys++[(cw.mk jf gA jg jm jn jD)]) h2 h3 (fun b hb=>(h4 b hb).imp id (fun e=>by have:=cE.size hba;omega)) ((dP.gI _ hba).trans h5)
     have hl9:(keys++[(cw.mk jf gA jg jm jn jD)]).length=keys.length+1:=aK
     rw[hl9]at p4 p5
     have Bm:=zJ (W0:=w) hB h5 (fun b hb=>Gk.out.lt b hb) hgl hgq p2 p3 p4 p5 p1
     have hkq:=p1
     exact hK.out _ _ ⟨fun h=>absurd (show true=false from h) aF,hkq,cQ,cT,dh,du,dF,eQ,dK,eR,eS,dL,eT,ek,ep,eu,dX,ew,ey,fun _ h=>absurd (show true=false from h) aF,fun _=>Bm,eU,eF⟩
    case s19 =>
     intro uf wa s hs ha cl hJ K hK
     obtain⟨dt,eE,cQ,cT,dh,du,dF,eQ,dK,eR,eS,dL,eT,ek,ep,eu,dX,ew,ey,eK,eL,eU,eF⟩:=hJ
     have tE:=du (ha 3 aC)
     have xa:=dF (ha 4 aC)
     simp only[Act.put,aa,ab,ae,af,ag,ah]at hK |-
     rw[tE]at hK |-
     rw[xa]at hK |-
     go_simp
     exact hK.out _ _ ⟨dt,eE,cQ,cT,dh,du,dF,eQ,dK,eR,eS,dL,eT,ek,ep,eu,dX,ew,ey,eK,eL,fun _=>rfl,eF⟩
    case s20 =>
     intro uf wa s hs ha cl hJ K hK
     obtain⟨dt,eE,cQ,cT,dh,du,dF,eQ,dK,eR,eS,dL,eT,ek,ep,eu,dX,ew,ey,eK,eL,eU,eF⟩:=hJ
     have Ru:=eU (ha 19 aC)
     simp only[Act.put,aa,ab,ae,af,ag,ah]at hK |-
     rw[Ru]at hK |-
     go_simp
     exact hK.out _ _ ⟨dt,eE,cQ,cT,dh,du,dF,eQ,dK,eR,eS,dL,eT,ek,ep,eu,dX,ew,ey,eK,eL,eU,fun _=>rfl⟩
   case hlast =>
    simp only[iT,Act.put,aa,ab,ae,af,ag,ah]
    intro uf wa ⟨s,hall,hJ⟩ K hK
    obtain⟨dt,eE,cQ,cT,dh,du,dF,eQ,dK,eR,eS,dL,eT,ek,ep,eu,dX,ew,ey,eK,eL,eU,eF⟩:=hJ
    have Ei:=eF (hall 20 aF)
    obtain⟨A9,c9,ME,hcl,hfz,⟨L9,rD⟩,rz,uG,hblk,LV⟩:=eL (hall 18 aF)
    clear dt eE cQ cT dh du dF eQ dK eR eS dL eT ek ep eu dX ew ey eK eL eU eF hall
    rw[ME]at rD rz uG hblk LV
    rw[Ei,ME]at hK |-
    have hfz1:=hfz (o1+m2*5+4)
    go_simp
    refine hK.out undef _ ?_
    clear hK
    obtain⟨wz2,Rv⟩:∃x,wa.setCell ⟨b1,o1+m2*5+4,none⟩ (.slice A9 (keys.length+1) c9)=x:=⟨_,rfl⟩
    rw[Rv]at rD rz uG hblk LV |-
    clear Rv hcl hfz hfz1 Ei ME
    have LY:=hide rD
    have Gm:=hide rz
    have zF:=hide (pW.out.block uG (hblk r5 (by have:=TG.out;omega) pW.out.lt))
    have lq3:=ak Yg uG
    have hNz:N<=wz2.heap.size:=al hNw uG
    have sK:m2<(x2.set m2 (.mk 3 qJ qL its (keys++[(cw.mk jf gA jg jm jn jD)]))).length:=by rw[List.length_set];exact hm2
    have hx3:(x2.set m2 (cz.mk 3 qJ qL its (keys++[(cw.mk jf gA jg jm jn jD)])))[m2]=.mk 3 qJ qL its (keys++[(cw.mk jf gA jg jm jn jD)]):=List.getElem_set_self sK
    obtain⟨g,o,c2g,A3,c3,L3,Gn,Rw,Rx,aao,hrow3,hn3,Gp⟩:=LY.out.growI hNz sK hx3
    obtain⟨kg,-,rfl⟩:=slice_inj (LV.symm.trans Gn)
    obtain⟨rfl,rfl⟩:b1=g/\o1=o:=by simpa using kg
    have Gq:=hide hrow3
    have HN3:=hide hn3
    have SI:=hide Gp
    clear rD rz hblk hrow3 hn3 Gp kg Gn hx3 sK
    generalize uf 0=v0
    generalize uf 1=v1
    generalize uf 2=v2
    generalize uf 3=v3
    generalize uf 4=v4
    generalize uf 5=v5
    generalize uf 6=v6
    generalize uf 7=v7
    generalize uf 8=v8
    generalize uf 9=v9
    generalize uf 10=v10
    generalize uf 11=v11
    generalize uf 12=v12
    generalize uf 13=v13
    generalize uf 14=v14
    generalize uf 15=v15
    generalize uf 16=v16
    generalize uf 17=v17
    generalize uf 18=v18
    generalize uf 19=v19
    generalize uf 20=v20
    clear uf
    go_upto_region 24 with (fail)
    refine eP 18 (fun s f wq=>(s 15=false->cE wz2 wq)/\(wq.cell? ⟨q,2,none⟩=some (.slice (some ⟨b1,o1,none⟩) x2.length c2))/\(s 0=true->(f 0)=.pointer (some ⟨q,0,none⟩))/\(s 1=true->(f 1)=.pointer (some ⟨q,0,none⟩))/\(s 2=true->(f 2)=.pointer (some ⟨q,2,none⟩))/\(s 3=true->(f 3)=.slice (some ⟨b1,o1,none⟩) x2.length c2)/\(s 4=true->(f 4)=.int .i64 (m2:Int))/\(s 5=true->(f 5)=.pointer (some ⟨q,0,none⟩))/\(s 6=true->(f 6)=.pointer (some ⟨q,0,none⟩))/\(s 7=true->(f 7)=.pointer (some ⟨q,2,none⟩))/\(s 8=true->(f 8)=.slice (some ⟨b1,o1,none⟩) x2.length c2)/\(s 9=true->(f 9)=.int .i64 (m2:Int))/\(s 10=true->(f 10)=.pointer (some ⟨b1,o1+m2*5,none⟩))/\(s 11=true->(f 11)=.pointer (some ⟨b1,o1+m2*5+3,none⟩))/\(s 12=true->(f 12)=.slice A3 its.length c3)/\(s 13=true->(f 13)=.agg #[.int .i64 vk,.int .i64 vn,.int .i64 vi,.string vt,.int .i64 vl,.int .i64 vh])/\(s 14=true->s 15=false->Eb wz2.heap.size wq (f 14) #[.int .i64 vk,.int .i64 vn,.int .i64 vi,.string vt,.int .i64 vl,.int .i64 vh] 34)/\(s 15=true->Gh N wz2 wz2 wq q b1 (o1+m2*5+3) (.slice A3 its.length c3) (its.length+1) vs (cv.mk x0 x1 ((x2.set m2 (.mk 3 qJ qL its (keys++[(cw.mk jf gA jg jm jn jD)]))).set m2 (.mk 3 qJ qL (its++[(⟨vk,vn,vi,vt,vl,vh⟩:cV).tv]) (keys++[(cw.mk jf gA jg jm jn jD)]))) x3 x4 x5 x6 x7 x8 x9 x10 x11 x12) wz2.heap.size (.slice (some ⟨b1,o1,none⟩) x2.length c2) (f 15))/\(s 16=true->(f 16)=.pointer (some ⟨b1,o1+m2*5,none⟩))/\(s 17=true->(f 17)=.pointer (some ⟨b1,o1+m2*5+3,none⟩))) [(0,some 143),(1,some 144),(2,some 145),(3,some 146),(4,some 147),(5,some 148),(6,some 149),(7,some 150),(8,some 151),(9,some 152),(10,some 153),(11,some 154),(12,some 155),(13,some 156),(14,some 157),(15,some 158),(16,some 159),(17,some 160),(18,none)] rfl aC aC ?hJ rfl ?hstep ?hlast
    case hJ=>exact fun u=>⟨fun _=>bl,(cE.box (W:=wz2) bl q lq3 2).trans LV,(fun h=>absurd h ai),(fun h=>absurd h ai),(fun h=>absurd h ai),(fun h=>absurd h ai),(fun h=>absurd h ai),(fun h=>absurd h ai),(fun h=>absurd h ai),(fun h=>absurd h ai),(fun h=>absurd h ai),(fun h=>absurd h ai),(fun h=>absurd h ai),(fun h=>absurd h ai),(fun h=>absurd h ai),(fun h=>absurd h ai),(fun h _=>absurd h ai),(fun h=>absurd h ai),(fun h=>absurd h ai),(fun h=>absurd h ai)⟩
    case hstep =>
     simp only[iT,Act.put,aa,ab,ae,af,ag,ah]
     refine (cB (i:=0) (i2:=1) (o:=_) rfl ?s0 (cB (i:=1) (i2:=2) (o:=_) rfl ?s1 (cB (i:=2) (i2:=3) (o:=_) rfl ?s2 (cB (i:=3) (i2:=4) (o:=_) rfl ?s3 (cB (i:=4) (i2:=5) (o:=_) rfl ?s4 (cB (i:=5) (i2:=6) (o:=_) rfl ?s5 (cB (i:=6) (i2:=7) (o:=_) rfl ?s6 (cB (i:=7) (i2:=8) (o:=_) rfl ?s7 (cB (i:=8) (i2:=9) (o:=_) rfl ?s8 (cB (i:=9) (i2:=10) (o:=_) rfl ?s9 (cB (i:=10) (i2:=11) (o:=_) rfl ?s10 (cB (i:=11) (i2:=12) (o:=_) rfl ?s11 (cB (i:=12) (i2:=13) (o:=_) rfl ?s12 (cB (i:=13) (i2:=14) (o:=_) rfl ?s13 (cB (i:=14) (i2:=15) (o:=_) rfl ?s14 (cB (i:=15) (i2:=16) (o:=_) rfl ?s15 (cB (i:=16) (i2:=17) (o:=_) rfl ?s16 (cB (i:=17) (i2:=18) (o:=_) rfl ?s17 (gD aF)))))))))))))))))))
     case s0 =>
      intro uf wa s hs ha cl hJ K hK
      obtain⟨dt,eE,cQ,cT,dh,du,dF,eQ,dK,eR,eS,dL,eT,ek,ep,dC,eK,eL,eU,eF⟩:=hJ
      simp only[Act.put,aa,ab,ae,af,ag,ah]at hK |-
      go_simp
      exact hK.out _ _ ⟨dt,eE,fun _=>rfl,cT,dh,du,dF,eQ,dK,eR,eS,dL,eT,ek,ep,dC,eK,eL,eU,eF⟩
     case s1 =>
      intro uf wa s hs ha cl hJ K hK
      obtain⟨dt,eE,cQ,cT,dh,du,dF,eQ,dK,eR,eS,dL,eT,ek,ep,dC,eK,eL,eU,eF⟩:=hJ
      have nm:=cQ (ha 0 aC)
      simp only[Act.put,aa,ab,ae,af,ag,ah]at hK |-
      rw[nm]at hK |-
      go_simp
      exact hK.out _ _ ⟨dt,eE,cQ,fun _=>rfl,dh,du,dF,eQ,dK,eR,eS,dL,eT,ek,ep,dC,eK,eL,eU,eF⟩
     case s2 =>
      intro uf wa s hs ha cl hJ K hK
      obtain⟨dt,eE,cQ,cT,dh,du,dF,eQ,dK,eR,eS,dL,eT,ek,ep,dC,eK,eL,eU,eF⟩:=hJ
      have pS:=cT (ha 1 aC)
      simp only[Act.put,aa,ab,ae,af,ag,ah]at hK |-
      rw[pS]at hK |-
      go_simp
      exact hK.out _ _ ⟨dt,eE,cQ,cT,fun _=>rfl,du,dF,eQ,dK,eR,eS,dL,eT,ek,ep,dC,eK,eL,eU,eF⟩
     case s3 =>
      intro uf wa s hs ha cl hJ K hK
      obtain⟨dt,eE,cQ,cT,dh,du,dF,eQ,dK,eR,eS,dL,eT,ek,ep,dC,eK,eL,eU,eF⟩:=hJ
      have sd:=dh (ha 2 aC)
      simp only[Act.put,aa,ab,ae,af,ag,ah]at hK |-
      rw[sd]at hK |-
      have q1:=eE
      go_simp
      exact hK.out _ _ ⟨dt,eE,cQ,cT,dh,fun _=>rfl,dF,eQ,dK,eR,eS,dL,eT,ek,ep,dC,eK,eL,eU,eF⟩
     case s4 =>
      intro uf wa s hs ha cl hJ K hK
      obtain⟨dt,eE,cQ,cT,dh,du,dF,eQ,dK,eR,eS,dL,eT,ek,ep,dC,eK,eL,eU,eF⟩:=hJ
      simp only[Act.put,aa,ab,ae,af,ag,ah]at hK |-
      go_simp
      exact hK.out _ _ ⟨dt,eE,cQ,cT,dh,du,fun _=>rfl,eQ,dK,eR,eS,dL,eT,ek,ep,dC,eK,eL,eU,eF⟩
     case s5 =>
      intro uf wa s hs ha cl hJ K hK
      obtain⟨dt,eE,cQ,cT,dh,du,dF,eQ,dK,eR,eS,dL,eT,ek,ep,dC,eK,eL,eU,eF⟩:=hJ
      simp only[Act.put,aa,ab,ae,af,ag,ah]at hK |-
      go_simp
      exact hK.out _ _ ⟨dt,eE,cQ,cT,dh,du,dF,fun _=>rfl,dK,eR,eS,dL,eT,ek,ep,dC,eK,eL,eU,eF⟩
     case s6 =>
      intro uf wa s hs ha cl hJ K hK
      obtain⟨dt,eE,cQ,cT,dh,du,dF,eQ,dK,eR,eS,dL,eT,ek,ep,dC,eK,eL,eU,eF⟩:=hJ
      have Rq:=eQ (ha 5 aC)
      simp only[Act.put,aa,ab,ae,af,ag,ah]at hK |-
      rw[Rq]at hK |-
      go_simp
      exact hK.out _ _ ⟨dt,eE,cQ,cT,dh,du,dF,eQ,fun _=>rfl,eR,eS,dL,eT,ek,ep,dC,eK,eL,eU,eF⟩
     case s7 =>
      intro uf wa s hs ha cl hJ K hK
      obtain⟨dt,eE,cQ,cT,dh,du,dF,eQ,dK,eR,eS,dL,eT,ek,ep,dC,eK,eL,eU,eF⟩:=hJ
      have Bk:=dK (ha 6 aC)
      simp only[Act.put,aa,ab,ae,af,ag,ah]at hK |-
      rw[Bk]at hK |-
      go_simp
      exact hK.out _ _ ⟨dt,eE,cQ,cT,dh,du,dF,eQ,dK,fun _=>rfl,eS,dL,eT,ek,ep,dC,eK,eL,eU,eF⟩
     case s8 =>
      intro uf wa s hs ha cl hJ K hK
      obtain⟨dt,eE,cQ,cT,dh,du,dF,eQ,dK,eR,eS,dL,eT,ek,ep,dC,eK,eL,eU,eF⟩:=hJ
      have Rr:=eR (ha 7 aC)
      simp only[Act.put,aa,ab,ae,af,ag,ah]at hK |-
      rw[Rr]at hK |-
      have q1:=eE
      go_simp
      exact hK.out _ _ ⟨dt,eE,cQ,cT,dh,du,dF,eQ,dK,eR,fun _=>rfl,dL,eT,ek,ep,dC,eK,eL,eU,eF⟩
     case s9 =>
      intro uf wa s hs ha cl hJ K hK
      obtain⟨dt,eE,cQ,cT,dh,du,dF,eQ,dK,eR,eS,dL,eT,ek,ep,dC,eK,eL,eU,eF⟩:=hJ
      simp only[Act.put,aa,ab,ae,af,ag,ah]at hK |-
      go_simp
      exact hK.out _ _ ⟨dt,eE,cQ,cT,dh,du,dF,eQ,dK,eR,eS,fun _=>rfl,eT,ek,ep,dC,eK,eL,eU,eF⟩
     case s10 =>
      intro uf wa s hs ha cl hJ K hK
      obtain⟨dt,eE,cQ,cT,dh,du,dF,eQ,dK,eR,eS,dL,eT,ek,ep,dC,eK,eL,eU,eF⟩:=hJ
      have Rs:=eS (ha 8 aC)
      have Bl:=dL (ha 9 aC)
      simp only[Act.put,aa,ab,ae,af,ag,ah]at hK |-
      rw[Rs]at hK |-
      rw[Bl]at hK |-
      go_simp
      exact hK.out _ _ ⟨dt,eE,cQ,cT,dh,du,dF,eQ,dK,eR,eS,dL,fun _=>rfl,ek,ep,dC,eK,eL,eU,eF⟩
     case s11 =>
      intro uf wa s hs ha cl hJ K hK
      obtain⟨dt,eE,cQ,cT,dh,du,dF,eQ,dK,eR,eS,dL,eT,ek,ep,dC,eK,eL,eU,eF⟩:=hJ
      have Rt:=eT (ha 10 aC)
      simp only[Act.put,aa,ab,ae,af,ag,ah]at hK |-
      rw[Rt]at hK |-
      go_simp
      exact hK.out _ _ ⟨dt,eE,cQ,cT,dh,du,dF,eQ,dK,eR,eS,dL,eT,fun _=>rfl,ep,dC,eK,eL,eU,eF⟩
     case s12 =>
      intro uf wa s hs ha cl hJ K hK
      obtain⟨dt,eE,cQ,cT,dh,du,dF,eQ,dK,eR,eS,dL,eT,ek,ep,dC,eK,eL,eU,eF⟩:=hJ
      have Eg:=ek (ha 11 aC)
      have hap:s 15=false:=by
       cases hq:s 15 with
       | false=>rfl
       | true=>exact absurd (cl 15 hq 12 aC) aZ
      have hB:=dt hap
      simp only[Act.put,aa,ab,ae,af,ag,ah]at hK |-
      rw[Eg]at hK |-
      have q1:=(hB.box b1 Rx _).trans Rw
      go_simp
      exact hK.out _ _ ⟨dt,eE,cQ,cT,dh,du,dF,eQ,dK,eR,eS,dL,eT,ek,fun _=>rfl,dC,eK,eL,eU,eF⟩
     case s13 =>
      intro uf wa s hs ha cl hJ K hK
      obtain⟨dt,eE,cQ,cT,dh,du,dF,eQ,dK,eR,eS,dL,eT,ek,ep,dC,eK,eL,eU,eF⟩:=hJ
      have hap:s 15=false:=by
       cases hq:s 15 with
       | false=>rfl
       | true=>exact absurd (cl 14 (cl 15 hq 14 aC) 13 aC) aZ
      have hB:=dt hap
      simp only[Act.put,aa,ab,ae,af,ag,ah]at hK |-
      have q0:=(hB.box r5 zF.out.lt 0).trans zF.out.c0
      have q1:=(hB.box r5 zF.out.lt 1).trans zF.out.c1
      have q2:=(hB.box r5 zF.out.lt 2).trans zF.out.c2
      have q3:=(hB.box r5 zF.out.lt 3).trans zF.out.c3
      have q4:=(hB.box r5 zF.out.lt 4).trans zF.out.c4
      have q5:=(hB.box r5 zF.out.lt 5).trans zF.out.c5
      go_simp
      exact hK.out _ _ ⟨dt,eE,cQ,cT,dh,du,dF,eQ,dK,eR,eS,dL,eT,ek,ep,fun _=>rfl,eK,eL,eU,eF⟩
     case s14 =>
      intro uf wa s hs ha cl hJ K hK
      obtain⟨dt,eE,cQ,cT,dh,du,dF,eQ,dK,eR,eS,dL,eT,ek,ep,dC,eK,eL,eU,eF⟩:=hJ
      have mZ:=dC (ha 13 aC)
      have hap:s 15=false:=by
       cases hq:s 15 with
       | false=>rfl
       | true=>exact absurd (cl 15 hq 14 aC) aZ
      have hB:=dt hap
      simp only[Act.put,aa,ab,ae,af,ag,ah]at hK |-
      rw[mZ]at hK |-
      have BB:=cE.size hB
      have hbx:cE wa (wa.alloc (.cells #[.int .i64 vk,.int .i64 vn,.int .i64 vi,.string vt,.int .i64 vl,.int .i64 vh] 34)):=bl
      go_simp
      exact hK.out _ _ ⟨fun h=>(dt h).trans hbx,(hbx.box q (ak lq3 BB) 2).trans eE,cQ,cT,dh,du,dF,eQ,dK,eR,eS,dL,eT,ek,ep,dC,fun _ _=>⟨wa.heap.size,rfl,BB,heap_alloc_new _ _⟩,fun h=>absurd (hap.symm.trans h) ai,eU,eF⟩
     case s15 =>
      intro uf wa s hs ha cl hJ K hK
      obtain⟨dt,eE,cQ,cT,dh,du,dF,eQ,dK,eR,eS,dL,eT,ek,ep,dC,eK,eL,eU,eF⟩:=hJ
      have Eh:=ep (ha 12 aC)
      have Ig:=eK (ha 14 aC)
      have hap:s 15=false:=hs
      have hB:=dt hap
      simp only[Act.put,aa,ab,ae,af,ag,ah]at hK |-
      rw[Eh]at hK |-
      obtain⟨gl,Ih,aam,Ii⟩:=Ig hap
      rw[Ih]at hK |-
      refine nF (.tmp 155) (.tmp 157) 27 rfl 34 iv (.agg #[.int .i64 0,.int .i64 0,.int .i64 0,.string ByteArray.empty,.int .i64 0,.int .i64 0]) Tryz.underlying27 Ek Mj Mk Ml aF (Gq.out.bel hB) HN3.out HV.out rfl rfl (Eb.src Ii) (by have:=HLEN.out;omega) fun A9 c9 L9 w9 h2 h3 h4 h5=>?_
      obtain⟨p1,p2,p3,p4,p5⟩:=SI.out w9 A9 c9 L9 (its++[(⟨vk,vn,vi,vt,vl,vh⟩:cV).tv]) h2 h3 (fun b hb=>(h4 b hb).imp id (fun e=>by have:=cE.size hB;omega)) ((dP.gI _ hB).trans h5)
      have hl9:(its++[(⟨vk,vn,vi,vt,vl,vh⟩:cV).tv]).length=its.length+1:=aK
      rw[hl9]at p4 p5
      rw[List.length_set]at p1
      have Bm:=zJ (W0:=wz2) hB h5 (fun b hb=>Gq.out.lt b hb) Rx aao p2 p3 p4 p5 p1
      have hkq:=p1
      exact hK.out _ _ ⟨fun h=>absurd (show true=false from h) aF,hkq,cQ,cT,dh,du,dF,eQ,dK,eR,eS,dL,eT,ek,ep,dC,fun _ h=>absurd (show true=false from h) aF,fun _=>Bm,eU,eF⟩
     case s16 =>
      intro uf wa s hs ha cl hJ K hK
      obtain⟨dt,eE,cQ,cT,dh,du,dF,eQ,dK,eR,eS,dL,eT,ek,ep,dC,eK,eL,eU,eF⟩:=hJ
      have tE:=du (ha 3 aC)
      have xa:=dF (ha 4 aC)
      simp only[Act.put,aa,ab,ae,af,ag,ah]at hK |-
      rw[tE]at hK |-
      rw[xa]at hK |-
      go_simp
      exact hK.out _ _ ⟨dt,eE,cQ,cT,dh,du,dF,eQ,dK,eR,eS,dL,eT,ek,ep,dC,eK,eL,fun _=>rfl,eF⟩
     case s17 =>
      intro uf wa s hs ha cl hJ K hK
      obtain⟨dt,eE,cQ,cT,dh,du,dF,eQ,dK,eR,eS,dL,eT,ek,ep,dC,eK,eL,eU,eF⟩:=hJ
      have Ru:=eU (ha 16 aC)
      simp only[Act.put,aa,ab,ae,af,ag,ah]at hK |-
      rw[Ru]at hK |-
      go_simp
      exact hK.out _ _ ⟨dt,eE,cQ,cT,dh,du,dF,eQ,dK,eR,eS,dL,eT,ek,ep,dC,eK,eL,eU,fun _=>rfl⟩
    case hlast =>
     simp only[iT,Act.put,aa,ab,ae,af,ag,ah]
     intro uf wa ⟨s,hall,hJ⟩ K hK
     obtain⟨dt,eE,cQ,cT,dh,du,dF,eQ,dK,eR,eS,dL,eT,ek,ep,dC,eK,eL,eU,eF⟩:=hJ
     have Ei:=eF (hall 17 aF)
     obtain⟨A9,c9,ME,hcl,hfz,⟨L9,rD⟩,rz,uG,hblk,LV⟩:=eL (hall 15 aF)
     clear dt eE cQ cT dh du dF eQ dK eR eS dL eT ek ep dC eK eL eU eF hall
     exact Yi
end Go.Proofs.YtjngkknbpfgdcaaGreatDoor
