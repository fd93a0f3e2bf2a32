import Derived.Test.YtjngkknbpfgdcaaGreatDoorPr
import Derived.Test.YtjngkknbpfgdcaaGreatDoorPWr6
import Derived.Test.YtjngkknbpfgdcaaGreatDoorPWr7
import Derived.Test.YtjngkknbpfgdcaaGreatDoorPR0
set_option linter.unusedVariables false
set_option linter.unusedSimpArgs false
set_option maxRecDepth 100000
set_option maxHeartbeats 8000000
namespace Go.Proofs.YtjngkknbpfgdcaaGreatDoor
open Go.RowKit
theorem Ki (n i:Int) (t:ByteArray) (lo hi:Int) (s:cv) (hval:gJ s=true) (hin:inB s ⟨17,n,i,t,lo,hi⟩=true):I3 30 s ⟨17,n,i,t,lo,hi⟩:=by
 obtain⟨x0,x1,x2,x3,x4,x5,x6,x7,x8,x9,x10,x11,x12⟩:=s
 obtain⟨m,rfl,hm,hkd,-⟩:=qk hin aB
 rw[lS]at hkd
 obtain⟨tag,cR,a,b,he,ha5,QZ,Z8⟩:=EU hval hm hkd
 obtain⟨a0,a1,a2,a3,a4,a5⟩:=a
 obtain rfl:a0=5:=ha5
 obtain⟨m2,rfl,hm2,Ic,-⟩:=qk (k:=5) QZ aB
 rw[ny]at Ic
 obtain⟨qJ,qL,its,keys,ht,hlen⟩:=EV hval hm2 Ic
 clear hin hkd QZ Z8 Ic hval
 simp only[cv.jz]at hm hm2 he ht
 obtain⟨jf,gA,jg,jm,jn,jD⟩:=b
 have q1:Cr (cv.mk x0 x1 x2 x3 x4 x5 x6 x7 x8 x9 x10 x11 x12) (m:Int)=.mk 8 tag cR [.mk 5 m2 a2 a3 a4 a5,.mk jf gA jg jm jn jD] []:=(Cs (s:=(cv.mk x0 x1 x2 x3 x4 x5 x6 x7 x8 x9 x10 x11 x12)) hm).trans he
 have q2:x2.getD m2 ph=.mk 3 qJ qL its keys:=by rw[List.getD_eq_getElem?_getD,List.getElem?_eq_getElem hm2,ht];rfl
 have qT:Ea (cv.mk x0 x1 x2 x3 x4 x5 x6 x7 x8 x9 x10 x11 x12) ⟨17,m,i,t,lo,hi⟩=m2:=by unfold Ea;simp only[q1,cz.items,cZ,cw.Ts,Int.toNat_natCast]
 have qK:Ia (cv.mk x0 x1 x2 x3 x4 x5 x6 x7 x8 x9 x10 x11 x12) ⟨17,m,i,t,lo,hi⟩=(⟨jf,gA,jg,jm,jn,jD⟩:cV):=by unfold Ia;simp only[q1,cz.items,da,cw.Ts]
 obtain⟨d,hd,hdl⟩:=I2 keys (⟨jf,gA,jg,jm,jn,jD⟩:cV)
 have R1:=fun v:cV=>hide (show 0<=oB keys (⟨jf,gA,jg,jm,jn,jD⟩:cV)->mi (cv.mk x0 x1 x2 x3 x4 x5 x6 x7 x8 x9 x10 x11 x12) ⟨17,m,i,t,lo,hi⟩ v=(cv.mk x0 x1 (x2.set m2 (.mk 3 qJ qL (its.set d v.tv) keys)) x3 x4 x5 x6 x7 x8 x9 x10 x11 x12,0)from fun h=>by unfold mi;dsimp only;rw[if_neg aK,if_neg aK,if_neg aK,if_pos rfl];simp only[qT,qK,q2,cz.keys];rw[if_pos h,hd,Int.toNat_natCast];unfold xr;rw[q2];rfl)
 have R2:=fun v:cV=>hide (show oB keys (⟨jf,gA,jg,jm,jn,jD⟩:cV)<0->40<=keys.length->mi (cv.mk x0 x1 x2 x3 x4 x5 x6 x7 x8 x9 x10 x11 x12) ⟨17,m,i,t,lo,hi⟩ v=((cv.mk x0 x1 x2 x3 x4 x5 x6 x7 x8 x9 x10 x11 x12),302)from fun h h2=>by unfold mi;dsimp only;rw[if_neg aK,if_neg aK,if_neg aK,if_pos rfl];simp only[qT,qK,q2,cz.keys];rw[if_neg aB,if_pos h2])
 have R3:=fun v:cV=>hide (show oB keys (⟨jf,gA,jg,jm,jn,jD⟩:cV)<0->keys.length<40->mi (cv.mk x0 x1 x2 x3 x4 x5 x6 x7 x8 x9 x10 x11 x12) ⟨17,m,i,t,lo,hi⟩ v=(cv.mk x0 x1 (x2.set m2 (.mk 3 qJ qL (its++[v.tv]) (keys++[.mk jf gA jg jm jn jD]))) x3 x4 x5 x6 x7 x8 x9 x10 x11 x12,0)from fun h h2=>by unfold mi;dsimp only;rw[if_neg aK,if_neg aK,if_neg aK,if_pos rfl];simp only[qT,qK,q2,cz.keys];rw[if_neg aB,if_neg aB];unfold Kl;rw[q2];rfl)
 obtain⟨dm,hdm⟩:∃dm,oB keys (⟨jf,gA,jg,jm,jn,jD⟩:cV)=dm:=⟨_,rfl⟩
 rw[hdm]at hd
 simp only[hdm]at R1 R2 R3
 have HD:=hide hdm
 have HLEN:=hide hlen
 clear hdm q1 q2 qT qK hlen
 intro v N q w vs L hW hN hNq hr hv htab
 have HV:=hide hv
 obtain⟨vk,vn,vi,vt,vl,vh⟩:=v
 simp only[cV.val]
 have hq:=hW.lt
 have hq0:=hW.lt
 have HW:=hide hW
 clear hW hv
 go_enter Tryz.func30,Tryz.ntmps30
 go_upto_region 12 with (fail)
 refine dO fun wr hwr=>?_
 have hbr:cE w wr:=by rw[<-hwr];exact bl
 have R4:=hide (show V6 wr w.heap.size 17 m i t lo hi from by rw[<-hwr];exact V6.on (V6.new w 34) (cE.alloc (cE.refl _) _))
 have R5:=hide (show V6 wr (w.heap.size+1) vk vn vi vt vl vh from by rw[<-hwr];have h:=V6.new (w.alloc (.cells #[.int .i64 17,.int .i64 m,.int .i64 i,.string t,.int .i64 lo,.int .i64 hi] 34)) 34 (k:=vk) (n:=vn) (i:=vi) (t:=vt) (lo:=vl) (hi:=vh);rw[World.size_alloc]at h;exact h)
 have W1:=hide (HW.out.on hbr)
 have hq:q<wr.heap.size:=ak hq hbr.size
 obtain⟨r4,hr4⟩:∃x,w.heap.size=x:=⟨_,rfl⟩
 obtain⟨r5,nt⟩:∃x,w.heap.size+1=x:=⟨_,rfl⟩
 rw[hr4]at R4
 rw[nt]at R5
 simp only[nt]
 simp only[hr4]
 have HR4:=hide hr4
 have TG:=hide nt
 clear hwr hr4 nt
 replace R1:=R1 (⟨vk,vn,vi,vt,vl,vh⟩:cV)
 replace R2:=R2 (⟨vk,vn,vi,vt,vl,vh⟩:cV)
 replace R3:=R3 (⟨vk,vn,vi,vt,vl,vh⟩:cV)
 obtain⟨g,o,c2g,A4,c4,L4,Q5,Q9,hgl,hgq,hrow4,hn4,Gj⟩:=HW.out.X8 hN hm2 ht
 have Gk:=hide hrow4
 have HN4:=hide hn4
 have HPK:=hide Gj
 clear HW hrow4 hn4 Gj
 obtain⟨A2,c2,lN,hrow2⟩:=W1.out.ae9
 have HR2:=hide hrow2
 have fB:=hrow2.1
 have hcm2:=hrow2.2.1
 rw[aj]at fB
 unfold maxLen at hcm2
 clear hrow2
 have hbw:cE wr wr:=cE.refl wr
 (obtain⟨b1,o1,cH,cM,cN,cO,cP,mw,jr,jR,jI,hA1,hS1,hl1,hx1,hv1,eY,eG,fa,dY,er,db,de,dq,dy,dz⟩:=cz.at HR2.out m hm;subst hA1;have jh:=hide (Dat.cC.bel hbw hv1);have hh1:=hbw.box b1 hl1;have hw1:=ak hl1 (cE.size hbw);replace db:=(hh1 _).trans db;replace de:=(hh1 _).trans de;replace dq:=(hh1 _).trans dq;replace dy:=(hh1 _).trans dy;replace dz:=(hh1 _).trans dz;have gv:=hide hx1;have fJ:=hide dY;have jq:=hide er;clear hh1 hv1 hx1 hS1 dY er)
 obtain⟨rfl,rfl,rfl,rfl,rfl⟩:=cz.mk.inj (he.symm.trans gv.out)
 (obtain⟨b3,o3,j4,gx,iN,iO,iP,iQ,hA3,hS3,hl3,hx3,hv3,PE,PF,PG,Hl,PH,PI,wQ,rr,wR,wS,wT,wU⟩:=cw.at fJ.out 0 aK;subst hA3;have HV3:=hide (Dat.cC.bel hbw hv3);have hh3:=hbw.box b3 hl3;have hw3:=ak hl3 (cE.size hbw);replace wQ:=(hh3 _).trans wQ;replace rr:=(hh3 _).trans rr;replace wR:=(hh3 _).trans wR;replace wS:=(hh3 _).trans wS;replace wT:=(hh3 _).trans wT;replace wU:=(hh3 _).trans wU;have ZO:=hide hx3;clear hh3 hv3 hx3 hS3;simp only[Nat.zero_mul,Nat.one_mul,Nat.add_zero,Nat.reduceMul,Nat.add_assoc,Nat.reduceAdd]at wQ rr wR wS wT wU)
 (obtain⟨b14,o14,Ra,Rb,Rc,Rd,Re,Rf,Z9,aab,Rg,Rh,Ri,Rj,Rk,Rl,Rm,Rn,Ro,lX,lY,lZ,l0,l8,l9⟩:=cw.at fJ.out 1 aK;injection Option.some.inj Z9 with aac aad _;subst aac aad;have aiQ:=hide (Dat.cC.bel hbw Ri);have wZ:=hbw.box b3 Rg;have aiR:=ak Rg (cE.size hbw);replace lX:=(wZ _).trans lX;replace lY:=(wZ _).trans lY;replace lZ:=(wZ _).trans lZ;replace l0:=(wZ _).trans l0;replace l8:=(wZ _).trans l8;replace l9:=(wZ _).trans l9;have aae:=hide Rh;clear wZ Ri Rh aab;simp only[Nat.zero_mul,Nat.one_mul,Nat.add_zero,Nat.reduceMul,Nat.add_assoc,Nat.reduceAdd]at lX lY lZ l0 l8 l9)
 obtain⟨rfl,rfl,rfl,rfl,rfl,rfl⟩:=cw.mk.inj (show cw.mk 5 m2 a2 a3 a4 a5=.mk j4 gx iN iO iP iQ from ZO.out)
 obtain⟨rfl,rfl,rfl,rfl,rfl,rfl⟩:=cw.mk.inj (show cw.mk jf gA jg jm jn jD=.mk Ra Rb Rc Rd Re Rf from aae.out)
 (obtain⟨b5,o5,aei,aej,Li,aek,ael,Tm,Tn,BP,BQ,hA5,hS5,hl5,hx5,hv5,aen,aeo,aep,FJ,FK,rU,rV,rW,rX,oI⟩:=cz.at HR2.out m2 hm2;injection Option.some.inj hA5 with qb5 qo5 _;subst qb5 qo5;have HV5:=hide (Dat.cC.bel hbw hv5);have hh5:=hbw.box b1 hl5;have hw5:=ak hl5 (cE.size hbw);replace rU:=(hh5 _).trans rU;replace rV:=(hh5 _).trans rV;replace rW:=(hh5 _).trans rW;replace rX:=(hh5 _).trans rX;replace oI:=(hh5 _).trans oI;have HX5:=hide hx5;have Cy:=hide FJ;have yK:=hide FK;clear hh5 hv5 hx5 hS5 FJ FK)
 obtain⟨rfl,rfl,rfl,rfl,rfl⟩:=cz.mk.inj (ht.symm.trans HX5.out)
 obtain⟨kg,-,rfl⟩:=slice_inj (lN.symm.trans ((hbr.box q hq0 2).trans Q5))
 obtain⟨rfl,rfl⟩:b1=g/\o1=o:=by simpa using kg
 obtain⟨rfl,-,rfl⟩:=slice_inj (oI.symm.trans ((hbr.box b1 hgl _).trans Q9))
 clear kg Q5 Q9
 have hll:=Cy.out.1
 have hlm:=Cy.out.2.1
 simp only[aj]at hll
 unfold maxLen at hlm
 have hlk:=yK.out.1
 have aaf:=yK.out.2.1
 simp only[aj]at hlk
 unfold maxLen at aaf
 have HKO:=hide (show cV.Ok (⟨jf,gA,jg,jm,jn,jD⟩:cV)from⟨Rj,Rk,Rl,Rm,Rn,Ro⟩)
 have dm1:decide ((m:Int)<(x2.length:Int))=true:=aD
 have dm2:decide ((m2:Int)<(x2.length:Int))=true:=aD
 have hdI:fD dm:=by unfold fD;omega
 refine eP 9 (fun s f wq=>(cE wr wq)/\(s 0=true->(f 0)=.pointer (some ⟨q,0,none⟩))/\(s 1=true->(f 1)=.pointer (some ⟨q,0,none⟩))/\(s 2=true->(f 2)=.pointer (some ⟨q,2,none⟩))/\(s 3=true->(f 3)=.slice (some ⟨b1,o1,none⟩) x2.length c2)/\(s 4=true->(f 4)=.pointer (some ⟨r4,1,none⟩))/\(s 5=true->(f 5)=.int .i64 (m:Int))/\(s 6=true->(f 6)=.pointer (some ⟨b1,o1+m*5,none⟩))/\(s 7=true->(f 7)=.agg #[.int .i64 8,.int .i64 tag,.int .i64 cR,.slice (some ⟨b3,o3,none⟩) 2 jr,.slice jR 0 jI])/\(s 8=true->BxE wr.heap.size wq (f 8) (.int .i64 0) (.int .i64 0) (.int .i64 0) (.slice none 0 0) (.slice none 0 0))) [(0,some 74),(1,some 75),(2,some 76),(3,some 77),(4,some 78),(5,some 79),(6,some 80),(7,some 81),(8,some 7),(9,none)] rfl aC aC ?hJ rfl ?hstep ?hlast
 case hJ=>exact fun u=>⟨bl,(fun h=>absurd h ai),(fun h=>absurd h ai),(fun h=>absurd h ai),(fun h=>absurd h ai),(fun h=>absurd h ai),(fun h=>absurd h ai),(fun h=>absurd h ai),(fun h=>absurd h ai),(fun h=>absurd h ai)⟩
 case hstep =>
  exact afi
 case hlast =>
  simp only[iT,Act.put,aa,ab,ae,af,ag,ah]
  intro uf wa ⟨s,hall,hJ⟩ K hK
  obtain⟨dt,cQ,cT,dh,du,fi,fj,dM,ju,pX⟩:=hJ
  have Ie:=ju (hall 7 aF)
  have aag:=pX (hall 8 aF)
  clear cQ cT dh du fi fj dM ju pX hall
  obtain⟨re,ere,hre,hoe⟩:=aag
  rw[Ie,ere]at hK |-
  refine wp_store_mid 81 (.tmp 7) (.tmp 81) rfl re 0 #[.int .i64 8,.int .i64 tag,.int .i64 cR,.slice (some ⟨b3,o3,none⟩) 2 jr,.slice jR 0 jI] rfl rfl hoe.QY aC bm ?_
  refine hK.out undef _ ?_
  clear hK
  have OE:=hide (hoe.Yf (.int .i64 8) (.int .i64 tag) (.int .i64 cR) (.slice (some ⟨b3,o3,none⟩) 2 jr) (.slice jR 0 jI))
  have BE:=hide (CK dt hre [.int .i64 8,.int .i64 tag,.int .i64 cR,.slice (some ⟨b3,o3,none⟩) 2 jr,.slice jR 0 jI])
  obtain⟨wz,hwz⟩:∃x,wa.setCells re 0 [.int .i64 8,.int .i64 tag,.int .i64 cR,.slice (some ⟨b3,o3,none⟩) 2 jr,.slice jR 0 jI]=x:=⟨_,rfl⟩
  rw[hwz]at OE BE
  rw[show wa.setCells re 0 (#[Value.int .i64 8,.int .i64 tag,.int .i64 cR,.slice (some ⟨b3,o3,none⟩) 2 jr,.slice jR 0 jI]:Array Value).toList=wz from hwz]
  clear hwz hoe dt Ie ere
  generalize uf 0=z0
  generalize uf 1=z1
  generalize uf 2=z2
  generalize uf 3=z3
  generalize uf 4=z4
  generalize uf 5=z5
  generalize uf 6=z6
  generalize uf 7=z7
  generalize uf 8=z8
  clear uf
  obtain⟨hel,hef,k0,k1,k2,k3,k4⟩:=OE.out
  have hbz:=BE.out
  replace db:=(BE.out.box b1 hw1 _).trans db
  replace de:=(BE.out.box b1 hw1 _).trans de
  replace dq:=(BE.out.box b1 hw1 _).trans dq
  replace dy:=(BE.out.box b1 hw1 _).trans dy
  replace dz:=(BE.out.box b1 hw1 _).trans dz
  replace rU:=(BE.out.box b1 hw1 _).trans rU
  replace rV:=(BE.out.box b1 hw1 _).trans rV
  replace rW:=(BE.out.box b1 hw1 _).trans rW
  replace rX:=(BE.out.box b1 hw1 _).trans rX
  replace oI:=(BE.out.box b1 hw1 _).trans oI
  replace lX:=(BE.out.box b3 hw3 _).trans lX
  replace lY:=(BE.out.box b3 hw3 _).trans lY
  replace lZ:=(BE.out.box b3 hw3 _).trans lZ
  replace l0:=(BE.out.box b3 hw3 _).trans l0
  replace l8:=(BE.out.box b3 hw3 _).trans l8
  replace l9:=(BE.out.box b3 hw3 _).trans l9
  replace rr:=(BE.out.box b3 hw3 _).trans rr
  replace lN:=(BE.out.box q hq 2).trans lN
  have yQ:=ak hw1 hbz.size
  have sQ:=ak hw3 hbz.size
  have lq:=ak hq hbz.size
  go_upto_region 13 with (fail)
  refine eP 10 (fun s f wq=>(cE wz wq)/\(s 0=true->(f 0)=.pointer (some ⟨q,0,none⟩))/\(s 1=true->(f 1)=.pointer (some ⟨q,0,none⟩))/\(s 2=true->(f 2)=.pointer (some ⟨q,2,none⟩))/\(s 3=true->(f 3)=.slice (some ⟨b1,o1,none⟩) x2.length c2)/\(s 4=true->(f 4)=.pointer (some ⟨re,3,none⟩))/\(s 5=true->(f 5)=.slice (some ⟨b3,o3,none⟩) 2 jr)/\(s 6=true->(f 6)=.pointer (some ⟨b3,o3,none⟩))/\(s 7=true->(f 7)=.pointer (some ⟨b3,o3+1,none⟩))/\(s 8=true->(f 8)=.int .i64 (m2:Int))/\(s 9=true->(f 9)=.pointer (some ⟨b1,o1+m2*5,none⟩))) [(0,some 82),(1,some 83),(2,some 84),(3,some 85),(4,some 86),(5,some 87),(6,some 88),(7,some 89),(8,some 90),(9,some 91),(10,some 8)] rfl aC aC ?hJ rfl ?hstep ?hlast
  case hJ=>exact fun u=>⟨bl,(fun h=>absurd h ai),(fun h=>absurd h ai),(fun h=>absurd h ai),(fun h=>absurd h ai),(fun h=>absurd h ai),(fun h=>absurd h ai),(fun h=>absurd h ai),(fun h=>absurd h ai),(fun h=>absurd h ai),(fun h=>absurd h ai)⟩
  case hstep =>
   simp only[iT,Act.put,aa,ab,ae,af,ag,ah]
   refine (cB (i:=0) (i2:=1) (o:=_) rfl ?s0 (cB (i:=1) (i2:=2) (o:=_) rfl ?s1 (cB (i:=2) (i2:=3) (o:=_) rfl ?s2 (cB (i:=3) (i2:=4) (o:=_) rfl ?s3 (cB (i:=4) (i2:=5) (o:=_) rfl ?s4 (cB (i:=5) (i2:=6) (o:=_) rfl ?s5 (cB (i:=6) (i2:=7) (o:=_) rfl ?s6 (cB (i:=7) (i2:=8) (o:=_) rfl ?s7 (cB (i:=8) (i2:=9) (o:=_) rfl ?s8 (cB (i:=9) (i2:=10) (o:=_) rfl ?s9 (gD aF)))))))))))
   case s0 =>
    intro uf wa s hs ha cl hJ K hK
    obtain⟨dt,cQ,cT,dh,du,eu,dX,ew,qM,ey,dM⟩:=hJ
    simp only[Act.put,aa,ab,ae,af,ag,ah]at hK |-
    go_simp
    exact hK.out _ _ ⟨dt,fun _=>rfl,cT,dh,du,eu,dX,ew,qM,ey,dM⟩
   case s1 =>
    intro uf wa s hs ha cl hJ K hK
    obtain⟨dt,cQ,cT,dh,du,eu,dX,ew,qM,ey,dM⟩:=hJ
    have nm:=cQ (ha 0 aC)
    simp only[Act.put,aa,ab,ae,af,ag,ah]at hK |-
    rw[nm]at hK |-
    go_simp
    exact hK.out _ _ ⟨dt,cQ,fun _=>rfl,dh,du,eu,dX,ew,qM,ey,dM⟩
   case s2 =>
    intro uf wa s hs ha cl hJ K hK
    obtain⟨dt,cQ,cT,dh,du,eu,dX,ew,qM,ey,dM⟩:=hJ
    have pS:=cT (ha 1 aC)
    simp only[Act.put,aa,ab,ae,af,ag,ah]at hK |-
    rw[pS]at hK |-
    go_simp
    exact hK.out _ _ ⟨dt,cQ,cT,fun _=>rfl,du,eu,dX,ew,qM,ey,dM⟩
   case s3 =>
    intro uf wa s hs ha cl hJ K hK
    obtain⟨dt,cQ,cT,dh,du,eu,dX,ew,qM,ey,dM⟩:=hJ
    have sd:=dh (ha 2 aC)
    simp only[Act.put,aa,ab,ae,af,ag,ah]at hK |-
    rw[sd]at hK |-
    have q1:=(dt.box q lq _).trans lN
    go_simp
    exact hK.out _ _ ⟨dt,cQ,cT,dh,fun _=>rfl,eu,dX,ew,qM,ey,dM⟩
   case s4 =>
    intro uf wa s hs ha cl hJ K hK
    obtain⟨dt,cQ,cT,dh,du,eu,dX,ew,qM,ey,dM⟩:=hJ
    simp only[Act.put,aa,ab,ae,af,ag,ah]at hK |-
    go_simp
    exact hK.out _ _ ⟨dt,cQ,cT,dh,du,fun _=>rfl,dX,ew,qM,ey,dM⟩
   case s5 =>
    intro uf wa s hs ha cl hJ K hK
    obtain⟨dt,cQ,cT,dh,du,eu,dX,ew,qM,ey,dM⟩:=hJ
    have Ec:=eu (ha 4 aC)
    simp only[Act.put,aa,ab,ae,af,ag,ah]at hK |-
    rw[Ec]at hK |-
    have q1:=(dt.box re hel _).trans k3
    go_simp
    exact hK.out _ _ ⟨dt,cQ,cT,dh,du,eu,fun _=>rfl,ew,qM,ey,dM⟩
   case s6 =>
    intro uf wa s hs ha cl hJ K hK
    obtain⟨dt,cQ,cT,dh,du,eu,dX,ew,qM,ey,dM⟩:=hJ
    have wY:=dX (ha 5 aC)
    simp only[Act.put,aa,ab,ae,af,ag,ah]at hK |-
    rw[wY]at hK |-
    go_simp
    exact hK.out _ _ ⟨dt,cQ,cT,dh,du,eu,dX,fun _=>rfl,qM,ey,dM⟩
   case s7 =>
    intro uf wa s hs ha cl hJ K hK
    obtain⟨dt,cQ,cT,dh,du,eu,dX,ew,qM,ey,dM⟩:=hJ
    have Ed:=ew (ha 6 aC)
    simp only[Act.put,aa,ab,ae,af,ag,ah]at hK |-
    rw[Ed]at hK |-
    go_simp
    exact hK.out _ _ ⟨dt,cQ,cT,dh,du,eu,dX,ew,fun _=>rfl,ey,dM⟩
   case s8 =>
    intro uf wa s hs ha cl hJ K hK
    obtain⟨dt,cQ,cT,dh,du,eu,dX,ew,qM,ey,dM⟩:=hJ
    have aiW:=qM (ha 7 aC)
    simp only[Act.put,aa,ab,ae,af,ag,ah]at hK |-
    rw[aiW]at hK |-
    have q1:=(dt.box b3 sQ _).trans rr
    go_simp
    exact hK.out _ _ ⟨dt,cQ,cT,dh,du,eu,dX,ew,qM,fun _=>rfl,dM⟩
   case s9 =>
    intro uf wa s hs ha cl hJ K hK
    obtain⟨dt,cQ,cT,dh,du,eu,dX,ew,qM,ey,dM⟩:=hJ
    have tE:=du (ha 3 aC)
    have Ee:=ey (ha 8 aC)
    simp only[Act.put,aa,ab,ae,af,ag,ah]at hK |-
    rw[tE]at hK |-
    rw[Ee]at hK |-
    go_simp
    exact hK.out _ _ ⟨dt,cQ,cT,dh,du,eu,dX,ew,qM,ey,fun _=>rfl⟩
  case hlast =>
   simp only[iT,Act.put,aa,ab,ae,af,ag,ah]
   intro uf wa ⟨s,hall,hJ⟩ K hK
   obtain⟨dt,cQ,cT,dh,du,eu,dX,ew,qM,ey,dM⟩:=hJ
   have xM:=dM (hall 9 aF)
   clear cQ cT dh du eu dX ew qM ey dM hall
   rw[xM]at hK |-
   go_simp
   refine hK.out _ _ ?_
   clear hK xM
   generalize uf 0=y0
   generalize uf 1=y1
   generalize uf 2=y2
   generalize uf 3=y3
   generalize uf 4=y4
   generalize uf 5=y5
   generalize uf 6=y6
   generalize uf 7=y7
   generalize uf 8=y8
   generalize uf 9=y9
   clear uf
   obtain⟨wy,hwy⟩:∃x,wa=x:=⟨_,rfl⟩
   rw[hwy]at dt |-
   clear hwy wa
   have BE2:=hide (cE.trans BE.out dt)
   have OE2:=hide (OE.out.on dt)
   replace lN:=(dt.box q lq 2).trans lN
   replace rU:=(dt.box b1 yQ _).trans rU
   replace rV:=(dt.box b1 yQ _).trans rV
   replace rW:=(dt.box b1 yQ _).trans rW
   replace rX:=(dt.box b1 yQ _).trans rX
   replace oI:=(dt.box b1 yQ _).trans oI
   replace lX:=(dt.box b3 sQ _).trans lX
   replace lY:=(dt.box b3 sQ _).trans lY
   replace lZ:=(dt.box b3 sQ _).trans lZ
   replace l0:=(dt.box b3 sQ _).trans l0
   replace l8:=(dt.box b3 sQ _).trans l8
   replace l9:=(dt.box b3 sQ _).trans l9
   replace lq:=ak lq dt.size
   replace yQ:=ak yQ dt.size
   replace sQ:=ak sQ dt.size
   clear hel hef k0 k1 k2 k3 k4 BE OE dt
   have BE:=BE2
   have OE:=OE2
   clear BE2 OE2
   obtain⟨hel,hef,k0,k1,k2,k3,k4⟩:=OE.out
   go_upto_region 14 with (fail)
   refine eP 9 (fun s f wq=>(cE wy wq)/\(s 0=true->(f 0)=.pointer (some ⟨b1,o1+m2*5,none⟩))/\(s 1=true->(f 1)=.pointer (some ⟨b1,o1+m2*5,none⟩))/\(s 2=true->(f 2)=.pointer (some ⟨b1,o1+m2*5+4,none⟩))/\(s 3=true->(f 3)=.slice BP keys.length BQ)/\(s 4=true->(f 4)=.pointer (some ⟨re,3,none⟩))/\(s 5=true->(f 5)=.slice (some ⟨b3,o3,none⟩) 2 jr)/\(s 6=true->(f 6)=.pointer (some ⟨b3,o3+6,none⟩))/\(s 7=true->(f 7)=.agg #[.int .i64 jf,.int .i64 gA,.int .i64 jg,.string jm,.int .i64 jn,.int .i64 jD])/\(s 8=true->(f 8)=.int .i64 dm)) [(0,some 92),(1,some 93),(2,some 94),(3,some 95),(4,some 96),(5,some 97),(6,some 98),(7,some 99),(8,some 100),(9,some 9)] rfl aC aC ?hJ rfl ?hstep ?hlast
   case hJ=>exact fun u=>⟨bl,(fun h=>absurd h ai),(fun h=>absurd h ai),(fun h=>absurd h ai),(fun h=>absurd h ai),(fun h=>absurd h ai),(fun h=>absurd h ai),(fun h=>absurd h ai),(fun h=>absurd h ai),(fun h=>absurd h ai)⟩
   case hstep =>
    simp only[iT,Act.put,aa,ab,ae,af,ag,ah]
    refine (cB (i:=0) (i2:=1) (o:=_) rfl ?s0 (cB (i:=1) (i2:=2) (o:=_) rfl ?s1 (cB (i:=2) (i2:=3) (o:=_) rfl ?s2 (cB (i:=3) (i2:=4) (o:=_) rfl ?s3 (cB (i:=4) (i2:=5) (o:=_) rfl ?s4 (cB (i:=5) (i2:=6) (o:=_) rfl ?s5 (cB (i:=6) (i2:=7) (o:=_) rfl ?s6 (cB (i:=7) (i2:=8) (o:=_) rfl ?s7 (cB (i:=8) (i2:=9) (o:=_) rfl ?s8 (gD aF))))))))))
    case s0 =>
     intro uf wa s hs ha cl hJ K hK
     obtain⟨dt,dF,cT,ek,ep,eu,dX,ew,ey,jG⟩:=hJ
     simp only[Act.put,aa,ab,ae,af,ag,ah]at hK |-
     go_simp
     exact hK.out _ _ ⟨dt,fun _=>rfl,cT,ek,ep,eu,dX,ew,ey,jG⟩
    case s1 =>
     intro uf wa s hs ha cl hJ K hK
     obtain⟨dt,dF,cT,ek,ep,eu,dX,ew,ey,jG⟩:=hJ
     have xa:=dF (ha 0 aC)
     simp only[Act.put,aa,ab,ae,af,ag,ah]at hK |-
     rw[xa]at hK |-
     go_simp
     exact hK.out _ _ ⟨dt,dF,fun _=>rfl,ek,ep,eu,dX,ew,ey,jG⟩
    case s2 =>
     intro uf wa s hs ha cl hJ K hK
     obtain⟨dt,dF,cT,ek,ep,eu,dX,ew,ey,jG⟩:=hJ
     have pS:=cT (ha 1 aC)
     simp only[Act.put,aa,ab,ae,af,ag,ah]at hK |-
     rw[pS]at hK |-
     go_simp
     exact hK.out _ _ ⟨dt,dF,cT,fun _=>rfl,ep,eu,dX,ew,ey,jG⟩
    case s3 =>
     intro uf wa s hs ha cl hJ K hK
     obtain⟨dt,dF,cT,ek,ep,eu,dX,ew,ey,jG⟩:=hJ
     have Eg:=ek (ha 2 aC)
     simp only[Act.put,aa,ab,ae,af,ag,ah]at hK |-
     rw[Eg]at hK |-
     have q1:=(dt.box b1 yQ _).trans oI
     go_simp
     exact hK.out _ _ ⟨dt,dF,cT,ek,fun _=>rfl,eu,dX,ew,ey,jG⟩
    case s4 =>
     intro uf wa s hs ha cl hJ K hK
     obtain⟨dt,dF,cT,ek,ep,eu,dX,ew,ey,jG⟩:=hJ
     simp only[Act.put,aa,ab,ae,af,ag,ah]at hK |-
     go_simp
     exact hK.out _ _ ⟨dt,dF,cT,ek,ep,fun _=>rfl,dX,ew,ey,jG⟩
    case s5 =>
     intro uf wa s hs ha cl hJ K hK
     obtain⟨dt,dF,cT,ek,ep,eu,dX,ew,ey,jG⟩:=hJ
     have Ec:=eu (ha 4 aC)
     simp only[Act.put,aa,ab,ae,af,ag,ah]at hK |-
     rw[Ec]at hK |-
     have q1:=(dt.box re hel _).trans k3
     go_simp
     exact hK.out _ _ ⟨dt,dF,cT,ek,ep,eu,fun _=>rfl,ew,ey,jG⟩
    case s6 =>
     intro uf wa s hs ha cl hJ K hK
     obtain⟨dt,dF,cT,ek,ep,eu,dX,ew,ey,jG⟩:=hJ
     have wY:=dX (ha 5 aC)
     simp only[Act.put,aa,ab,ae,af,ag,ah]at hK |-
     rw[wY]at hK |-
     go_simp
     exact hK.out _ _ ⟨dt,dF,cT,ek,ep,eu,dX,fun _=>rfl,ey,jG⟩
    case s7 =>
     intro uf wa s hs ha cl hJ K hK
     obtain⟨dt,dF,cT,ek,ep,eu,dX,ew,ey,jG⟩:=hJ
     have Ed:=ew (ha 6 aC)
     simp only[Act.put,aa,ab,ae,af,ag,ah]at hK |-
     rw[Ed]at hK |-
     have q0:=(dt.box b3 sQ _).trans lX
     have q1:=(dt.box b3 sQ _).trans lY
     have q2:=(dt.box b3 sQ _).trans lZ
     have q3:=(dt.box b3 sQ _).trans l0
     have q4:=(dt.box b3 sQ _).trans l8
     have q5:=(dt.box b3 sQ _).trans l9
     go_simp
     exact hK.out _ _ ⟨dt,dF,cT,ek,ep,eu,dX,ew,fun _=>rfl,jG⟩
    case s8 =>
     intro uf wa s hs ha cl hJ K hK
     obtain⟨dt,dF,cT,ek,ep,eu,dX,ew,ey,jG⟩:=hJ
     have Eh:=ep (ha 3 aC)
     have Ee:=ey (ha 7 aC)
     simp only[Act.put,aa,ab,ae,af,ag,ah]at hK |-
     rw[Eh]at hK |-
     rw[Ee]at hK |-
     go_simp
     go_at_call 85
     (with_reducible refine (Az keys (⟨jf,gA,jg,jm,jn,jD⟩:cV) (fun _=>True) _ BP BQ (Row.bel (cE.trans BE.out dt) yK.out)).mono ?_)
     rintro e w5 ⟨rfl,hb5⟩
     rw[HD.out]
     exact hK.out _ _ ⟨dt.trans hb5,dF,cT,ek,ep,eu,dX,ew,ey,fun _=>rfl⟩
   case hlast =>
    simp only[iT,Act.put,aa,ab,ae,af,ag,ah]
    intro uf wa ⟨s,hall,hJ⟩ K hK
    obtain⟨dt,dF,cT,ek,ep,eu,dX,ew,ey,jG⟩:=hJ
    have Rp:=jG (hall 8 aF)
    clear dF cT ek ep eu dX ew ey jG hall
    rw[Rp]at hK |-
    go_simp
    refine hK.out _ _ ?_
    clear hK Rp
    generalize uf 0=y0
    generalize uf 1=y1
    generalize uf 2=y2
    generalize uf 3=y3
    generalize uf 4=y4
    generalize uf 5=y5
    generalize uf 6=y6
    generalize uf 7=y7
    generalize uf 8=y8
    clear uf
    obtain⟨w2,hw2⟩:∃x,wa=x:=⟨_,rfl⟩
    rw[hw2]at dt |-
    clear hw2 wa
    have hbw2:=hbr.trans (cE.trans BE.out dt)
    have W2:=hide (W1.out.on (cE.trans BE.out dt))
    have pW:=hide (R5.out.on (cE.trans BE.out dt))
    have OE2:=hide (OE.out.on dt)
    have hNw:N<=w2.heap.size:=al hN hbw2.size
    replace lN:=(dt.box q lq 2).trans lN
    replace rU:=(dt.box b1 yQ _).trans rU
    replace rV:=(dt.box b1 yQ _).trans rV
    replace rW:=(dt.box b1 yQ _).trans rW
    replace rX:=(dt.box b1 yQ _).trans rX
    replace oI:=(dt.box b1 yQ _).trans oI
    replace lX:=(dt.box b3 sQ _).trans lX
    replace lY:=(dt.box b3 sQ _).trans lY
    replace lZ:=(dt.box b3 sQ _).trans lZ
    replace l0:=(dt.box b3 sQ _).trans l0
    replace l8:=(dt.box b3 sQ _).trans l8
    replace l9:=(dt.box b3 sQ _).trans l9
    have Yg:=ak lq dt.size
    have aah:=ak yQ dt.size
    have yq:=ak sQ dt.size
    clear hel hef k0 k1 k2 k3 k4 W1 R5 OE BE R4 dt
    obtain⟨hel,hef,k0,k1,k2,k3,k4⟩:=OE2.out
    by_cases h0:0<=dm
    case pos =>
     have d0:decide (0<=dm)=true:=ar h0
     have RR:=hide (R1.out h0)
     have hjd:d<its.length:=by have:=HLEN.out;omega
     have sm:IntKind.i64.wrap (1+dm)=(d:Int):=bf
     have sm2:IntKind.i64.wrap (d:Int)=(d:Int):=bf
     have ddm:decide ((d:Int)<(its.length:Int))=true:=aD
     go_upto_region 16 with (fail)
     (try simp only[d0])
     clear d0
     obtain⟨gs,os,cs,g3,TH,c3s,TI,aai,hgs,aiT,⟨hcs,hms,hcs3,aaj⟩,Gl⟩:=W2.out.CI hNw hm2 ht hjd
     unfold maxLen at hms aaj
     have HPS:=hide Gl
     clear Gl
     obtain⟨kg,-,rfl⟩:=slice_inj (lN.symm.trans TI)
     obtain⟨rfl,rfl⟩:b1=gs/\o1=os:=by simpa using kg
     clear kg
     refine eP 8 (fun s f wq=>(cE w2 wq)/\(s 0=true->(f 0)=.pointer (some ⟨b1,o1+m2*5,none⟩))/\(s 1=true->(f 1)=.pointer (some ⟨b1,o1+m2*5,none⟩))/\(s 2=true->(f 2)=.pointer (some ⟨b1,o1+m2*5+3,none⟩))/\(s 3=true->(f 3)=.slice (some ⟨g3,TH,none⟩) its.length c3s)/\(s 4=true->(f 4)=.int .i64 dm)/\(s 5=true->(f 5)=.int .i64 (d:Int))/\(s 6=true->(f 6)=.agg #[.int .i64 vk,.int .i64 vn,.int .i64 vi,.string vt,.int .i64 vl,.int .i64 vh])/\(s 7=true->(f 7)=.pointer (some ⟨g3,TH+d*6,none⟩))) [(0,some 103),(1,some 104),(2,some 105),(3,some 106),(4,some 107),(5,some 108),(6,some 109),(7,some 110),(8,none)] rfl aC aC ?hJ rfl ?hstep ?hlast
     case hJ=>exact fun u=>⟨bl,(fun h=>absurd h ai),(fun h=>absurd h ai),(fun h=>absurd h ai),(fun h=>absurd h ai),(fun h=>absurd h ai),(fun h=>absurd h ai),(fun h=>absurd h ai),(fun h=>absurd h ai)⟩
     case hstep =>
      simp only[iT,Act.put,aa,ab,ae,af,ag,ah]
      refine (cB (i:=0) (i2:=1) (o:=_) rfl ?s0 (cB (i:=1) (i2:=2) (o:=_) rfl ?s1 (cB (i:=2) (i2:=3) (o:=_) rfl ?s2 (cB (i:=3) (i2:=4) (o:=_) rfl ?s3 (cB (i:=4) (i2:=5) (o:=_) rfl ?s4 (cB (i:=5) (i2:=6) (o:=_) rfl ?s5 (cB (i:=6) (i2:=7) (o:=_) rfl ?s6 (cB (i:=7) (i2:=8) (o:=_) rfl ?s7 (gD aF)))))))))
      case s0 =>
       intro uf wa s hs ha cl hJ K hK
       obtain⟨dt,dF,cT,eD,ei,jU,jV,dC,eO⟩:=hJ
       simp only[Act.put,aa,ab,ae,af,ag,ah]at hK |-
       go_simp
       exact hK.out _ _ ⟨dt,fun _=>rfl,cT,eD,ei,jU,jV,dC,eO⟩
      case s1 =>
       intro uf wa s hs ha cl hJ K hK
       obtain⟨dt,dF,cT,eD,ei,jU,jV,dC,eO⟩:=hJ
       have xa:=dF (ha 0 aC)
       simp only[Act.put,aa,ab,ae,af,ag,ah]at hK |-
       rw[xa]at hK |-
       go_simp
       exact hK.out _ _ ⟨dt,dF,fun _=>rfl,eD,ei,jU,jV,dC,eO⟩
      case s2 =>
       intro uf wa s hs ha cl hJ K hK
       obtain⟨dt,dF,cT,eD,ei,jU,jV,dC,eO⟩:=hJ
       have pS:=cT (ha 1 aC)
       simp only[Act.put,aa,ab,ae,af,ag,ah]at hK |-
       rw[pS]at hK |-
       go_simp
       exact hK.out _ _ ⟨dt,dF,cT,fun _=>rfl,ei,jU,jV,dC,eO⟩
      case s3 =>
       intro uf wa s hs ha cl hJ K hK
       obtain⟨dt,dF,cT,eD,ei,jU,jV,dC,eO⟩:=hJ
       have Ef:=eD (ha 2 aC)
       simp only[Act.put,aa,ab,ae,af,ag,ah]at hK |-
       rw[Ef]at hK |-
       have q1:=(dt.box b1 hgs _).trans aai
       go_simp
       exact hK.out _ _ ⟨dt,dF,cT,eD,fun _=>rfl,jU,jV,dC,eO⟩
      case s4 =>
       intro uf wa s hs ha cl hJ K hK
       obtain⟨dt,dF,cT,eD,ei,jU,jV,dC,eO⟩:=hJ
       simp only[Act.put,aa,ab,ae,af,ag,ah]at hK |-
       go_simp
       exact hK.out _ _ ⟨dt,dF,cT,eD,ei,fun _=>rfl,jV,dC,eO⟩
      case s5 =>
       intro uf wa s hs ha cl hJ K hK
       obtain⟨dt,dF,cT,eD,ei,jU,jV,dC,eO⟩:=hJ
       have aak:=jU (ha 4 aC)
       simp only[Act.put,aa,ab,ae,af,ag,ah]at hK |-
       rw[aak]at hK |-
       go_simp
       exact hK.out _ _ ⟨dt,dF,cT,eD,ei,jU,fun _=>rfl,dC,eO⟩
      case s6 =>
       intro uf wa s hs ha cl hJ K hK
       obtain⟨dt,dF,cT,eD,ei,jU,jV,dC,eO⟩:=hJ
       simp only[Act.put,aa,ab,ae,af,ag,ah]at hK |-
       have q0:=(dt.box r5 pW.out.lt 0).trans pW.out.c0
       have q1:=(dt.box r5 pW.out.lt 1).trans pW.out.c1
       have q2:=(dt.box r5 pW.out.lt 2).trans pW.out.c2
       have q3:=(dt.box r5 pW.out.lt 3).trans pW.out.c3
       have q4:=(dt.box r5 pW.out.lt 4).trans pW.out.c4
       have q5:=(dt.box r5 pW.out.lt 5).trans pW.out.c5
       go_simp
       exact hK.out _ _ ⟨dt,dF,cT,eD,ei,jU,jV,fun _=>rfl,eO⟩
      case s7 =>
       intro uf wa s hs ha cl hJ K hK
       obtain⟨dt,dF,cT,eD,ei,jU,jV,dC,eO⟩:=hJ
       have Bj:=ei (ha 3 aC)
       have aal:=jV (ha 5 aC)
       simp only[Act.put,aa,ab,ae,af,ag,ah]at hK |-
       rw[Bj]at hK |-
       rw[aal]at hK |-
       go_simp
       exact hK.out _ _ ⟨dt,dF,cT,eD,ei,jU,jV,dC,fun _=>rfl⟩
     case hlast =>
      simp only[iT,Act.put,aa,ab,ae,af,ag,ah]
      intro uf wa ⟨s,hall,hJ⟩ K hK
      obtain⟨dt,dF,cT,eD,ei,jU,jV,dC,eO⟩:=hJ
      have ry:=eO (hall 7 aF)
      have mZ:=dC (hall 6 aF)
      clear dF cT eD ei jU jV dC eO hall
      rw[ry,mZ]at hK |-
      obtain⟨hth,hput⟩:=HPS.out wa dt
      refine wp_store_mid 34 (.tmp 110) (.tmp 109) rfl g3 (TH+d*6) #[.int .i64 vk,.int .i64 vn,.int .i64 vi,.string vt,.int .i64 vl,.int .i64 vh] rfl rfl hth aC bm ?_
      exact Yh
    have d0:decide (0<=dm)=false:=aq h0
    by_cases h40:40<=keys.length
    case pos =>
     exact afk
    have d40:decide ((40:Int)<=(keys.length:Int))=false:=aD
    have RR:=hide (R3.out aB aB)
    go_upto_region 20 with (fail)
    (try simp only[d0,d40])
    (try rw[show decide (40<=keys.length)=false from aq aB])
    clear d0 d40
    obtain⟨iv,Ek,Mj,Mk,Ml⟩:=info_parts xf
    refine eP 13 (fun s f wq=>(s 10=false->cE w2 wq)/\(wq.cell? ⟨q,2,none⟩=some (.slice (some ⟨b1,o1,none⟩) x2.length c2))/\(s 0=true->(f 0)=.pointer (some ⟨b1,o1+m2*5,none⟩))/\(s 1=true->(f 1)=.pointer (some ⟨b1,o1+m2*5,none⟩))/\(s 2=true->(f 2)=.pointer (some ⟨b1,o1+m2*5,none⟩))/\(s 3=true->(f 3)=.pointer (some ⟨b1,o1+m2*5+4,none⟩))/\(s 4=true->(f 4)=.slice BP keys.length BQ)/\(s 5=true->(f 5)=.pointer (some ⟨re,3,none⟩))/\(s 6=true->(f 6)=.slice (some ⟨b3,o3,none⟩) 2 jr)/\(s 7=true->(f 7)=.pointer (some ⟨b3,o3+6,none⟩))/\(s 8=true->(f 8)=.agg #[.int .i64 jf,.int .i64 gA,.int .i64 jg,.string jm,.int .i64 jn,.int .i64 jD])/\(s 9=true->s 10=false->Eb w2.heap.size wq (f 9) #[.int .i64 jf,.int .i64 gA,.int .i64 jg,.string jm,.int .i64 jn,.int .i64 jD] 34)/\(s 10=true->Gh N w w2 wq q b1 (o1+m2*5+4) (.slice BP keys.length BQ) (keys.length+1) vs (cv.mk x0 x1 (x2.set m2 (.mk 3 qJ qL its (keys++[(cw.mk jf gA jg jm jn jD)]))) x3 x4 x5 x6 x7 x8 x9 x10 x11 x12) w.heap.size (.slice (some ⟨b1,o1,none⟩) x2.length c2) (f 10))/\(s 11=true->(f 11)=.pointer (some ⟨b1,o1+m2*5,none⟩))/\(s 12=true->(f 12)=.pointer (some ⟨b1,o1+m2*5+4,none⟩))) [(0,some 117),(1,some 118),(2,some 119),(3,some 120),(4,some 121),(5,some 122),(6,some 123),(7,some 124),(8,some 125),(9,some 126),(10,some 127),(11,some 128),(12,some 129),(13,none)] rfl aC aC ?hJ rfl ?hstep ?hlast
    case hJ=>exact fun u=>⟨fun _=>bl,(cE.box (W:=w2) bl q Yg 2).trans lN,(fun h=>absurd h ai),(fun h=>absurd h ai),(fun h=>absurd h ai),(fun h=>absurd h ai),(fun h=>absurd h ai),(fun h=>absurd h ai),(fun h=>absurd h ai),(fun h=>absurd h ai),(fun h=>absurd h ai),(fun h _=>absurd h ai),(fun h=>absurd h ai),(fun h=>absurd h ai),(fun h=>absurd h ai)⟩
    case hstep =>
     simp only[iT,Act.put,aa,ab,ae,af,ag,ah]
     refine (cB (i:=0) (i2:=1) (o:=_) rfl ?s0 (cB (i:=1) (i2:=2) (o:=_) rfl ?s1 (cB (i:=2) (i2:=3) (o:=_) rfl ?s2 (cB (i:=3) (i2:=4) (o:=_) rfl ?s3 (cB (i:=4) (i2:=5) (o:=_) rfl ?s4 (cB (i:=5) (i2:=6) (o:=_) rfl ?s5 (cB (i:=6) (i2:=7) (o:=_) rfl ?s6 (cB (i:=7) (i2:=8) (o:=_) rfl ?s7 (cB (i:=8) (i2:=9) (o:=_) rfl ?s8 (cB (i:=9) (i2:=10) (o:=_) rfl ?s9 (cB (i:=10) (i2:=11) (o:=_) rfl ?s10 (cB (i:=11) (i2:=12) (o:=_) rfl ?s11 (cB (i:=12) (i2:=13) (o:=_) rfl ?s12 (gD aF))))))))))))))
     case s0 =>
      intro uf wa s hs ha cl hJ K hK
      obtain⟨dt,eE,dF,dL,dK,ek,ep,eu,dX,ew,ey,eK,eL,gu,eF⟩:=hJ
      simp only[Act.put,aa,ab,ae,af,ag,ah]at hK |-
      go_simp
      exact hK.out _ _ ⟨dt,eE,fun _=>rfl,dL,dK,ek,ep,eu,dX,ew,ey,eK,eL,gu,eF⟩
     case s1 =>
      intro uf wa s hs ha cl hJ K hK
      obtain⟨dt,eE,dF,dL,dK,ek,ep,eu,dX,ew,ey,eK,eL,gu,eF⟩:=hJ
      simp only[Act.put,aa,ab,ae,af,ag,ah]at hK |-
      go_simp
      exact hK.out _ _ ⟨dt,eE,dF,fun _=>rfl,dK,ek,ep,eu,dX,ew,ey,eK,eL,gu,eF⟩
     case s2 =>
      intro uf wa s hs ha cl hJ K hK
      obtain⟨dt,eE,dF,dL,dK,ek,ep,eu,dX,ew,ey,eK,eL,gu,eF⟩:=hJ
      have Bl:=dL (ha 1 aC)
      simp only[Act.put,aa,ab,ae,af,ag,ah]at hK |-
      rw[Bl]at hK |-
      go_simp
      exact hK.out _ _ ⟨dt,eE,dF,dL,fun _=>rfl,ek,ep,eu,dX,ew,ey,eK,eL,gu,eF⟩
     case s3 =>
      intro uf wa s hs ha cl hJ K hK
      obtain⟨dt,eE,dF,dL,dK,ek,ep,eu,dX,ew,ey,eK,eL,gu,eF⟩:=hJ
      have Bk:=dK (ha 2 aC)
      simp only[Act.put,aa,ab,ae,af,ag,ah]at hK |-
      rw[Bk]at hK |-
      go_simp
      exact hK.out _ _ ⟨dt,eE,dF,dL,dK,fun _=>rfl,ep,eu,dX,ew,ey,eK,eL,gu,eF⟩
     case s4 =>
      intro uf wa s hs ha cl hJ K hK
      obtain⟨dt,eE,dF,dL,dK,ek,ep,eu,dX,ew,ey,eK,eL,gu,eF⟩:=hJ
      have Eg:=ek (ha 3 aC)
      have hap:s 10=false:=by
       cases hq:s 10 with
       | false=>rfl
       | true=>exact absurd (cl 10 hq 4 aC) aZ
      have hB:=dt hap
      simp only[Act.put,aa,ab,ae,af,ag,ah]at hK |-
      rw[Eg]at hK |-
      have q1:=(hB.box b1 aah _).trans oI
      go_simp
      exact hK.out _ _ ⟨dt,eE,dF,dL,dK,ek,fun _=>rfl,eu,dX,ew,ey,eK,eL,gu,eF⟩
     case s5 =>
      intro uf wa s hs ha cl hJ K hK
      obtain⟨dt,eE,dF,dL,dK,ek,ep,eu,dX,ew,ey,eK,eL,gu,eF⟩:=hJ
      simp only[Act.put,aa,ab,ae,af,ag,ah]at hK |-
      go_simp
      exact hK.out _ _ ⟨dt,eE,dF,dL,dK,ek,ep,fun _=>rfl,dX,ew,ey,eK,eL,gu,eF⟩
     case s6 =>
      intro uf wa s hs ha cl hJ K hK
      obtain⟨dt,eE,dF,dL,dK,ek,ep,eu,dX,ew,ey,eK,eL,gu,eF⟩:=hJ
      have Ec:=eu (ha 5 aC)
      have hap:s 10=false:=by
       cases hq:s 10 with
       | false=>rfl
       | true=>exact absurd (cl 7 (cl 8 (cl 9 (cl 10 hq 9 aC) 8 aC) 7 aC) 6 aC) aZ
      have hB:=dt hap
      simp only[Act.put,aa,ab,ae,af,ag,ah]at hK |-
      rw[Ec]at hK |-
      have q1:=(hB.box re hel _).trans k3
      go_simp
      exact hK.out _ _ ⟨dt,eE,dF,dL,dK,ek,ep,eu,fun _=>rfl,ew,ey,eK,eL,gu,eF⟩
     case s7 =>
      intro uf wa s hs ha cl hJ K hK
      obtain⟨dt,eE,dF,dL,dK,ek,ep,eu,dX,ew,ey,eK,eL,gu,eF⟩:=hJ
      have wY:=dX (ha 6 aC)
      simp only[Act.put,aa,ab,ae,af,ag,ah]at hK |-
      rw[wY]at hK |-
      go_simp
      exact hK.out _ _ ⟨dt,eE,dF,dL,dK,ek,ep,eu,dX,fun _=>rfl,ey,eK,eL,gu,eF⟩
     case s8 =>
      intro uf wa s hs ha cl hJ K hK
      obtain⟨dt,eE,dF,dL,dK,ek,ep,eu,dX,ew,ey,eK,eL,gu,eF⟩:=hJ
      have Ed:=ew (ha 7 aC)
      have hap:s 10=false:=by
       cases hq:s 10 with
       | false=>rfl
       | true=>exact absurd (cl 9 (cl 10 hq 9 aC) 8 aC) aZ
      have hB:=dt hap
      simp only[Act.put,aa,ab,ae,af,ag,ah]at hK |-
      rw[Ed]at hK |-
      have q0:=(hB.box b3 yq _).trans lX
      have q1:=(hB.box b3 yq _).trans lY
      have q2:=(hB.box b3 yq _).trans lZ
      have q3:=(hB.box b3 yq _).trans l0
      have q4:=(hB.box b3 yq _).trans l8
      have q5:=(hB.box b3 yq _).trans l9
      go_simp
      exact hK.out _ _ ⟨dt,eE,dF,dL,dK,ek,ep,eu,dX,ew,fun _=>rfl,eK,eL,gu,eF⟩
     case s9 =>
      intro uf wa s hs ha cl hJ K hK
      obtain⟨dt,eE,dF,dL,dK,ek,ep,eu,dX,ew,ey,eK,eL,gu,eF⟩:=hJ
      have Ee:=ey (ha 8 aC)
      have hap:s 10=false:=by
       exact X1
      have hB:=dt hap
      simp only[Act.put,aa,ab,ae,af,ag,ah]at hK |-
      rw[Ee]at hK |-
      have BB:=cE.size hB
      have hbx:cE wa (wa.alloc (.cells #[.int .i64 jf,.int .i64 gA,.int .i64 jg,.string jm,.int .i64 jn,.int .i64 jD] 34)):=bl
      go_simp
      exact hK.out _ _ ⟨fun h=>(dt h).trans hbx,(hbx.box q (ak Yg BB) 2).trans eE,dF,dL,dK,ek,ep,eu,dX,ew,ey,fun _ _=>⟨wa.heap.size,rfl,BB,heap_alloc_new _ _⟩,fun h=>absurd (hap.symm.trans h) ai,gu,eF⟩
     case s10 =>
      intro uf wa s hs ha cl hJ K hK
      obtain⟨dt,eE,dF,dL,dK,ek,ep,eu,dX,ew,ey,eK,eL,gu,eF⟩:=hJ
      have Eh:=ep (ha 4 aC)
      have Ig:=eK (ha 9 aC)
      have hap:s 10=false:=hs
      have hB:=dt hap
      simp only[Act.put,aa,ab,ae,af,ag,ah]at hK |-
      rw[Eh]at hK |-
      obtain⟨gl,Ih,aam,Ii⟩:=Ig hap
      rw[Ih]at hK |-
      refine nF (.tmp 121) (.tmp 126) 27 rfl 34 iv (.agg #[.int .i64 0,.int .i64 0,.int .i64 0,.string ByteArray.empty,.int .i64 0,.int .i64 0]) Tryz.underlying27 Ek Mj Mk Ml aF (Gk.out.bel (cE.trans hbw2 hB)) HN4.out HKO.out rfl rfl (Eb.src Ii) aB fun A9 c9 L9 w9 h2 h3 h4 h5=>?_
      have hba:=cE.trans hbw2 hB
      obtain⟨p1,p2,p3,p4,p5⟩:=HPK.out w9 A9 c9 L9 (keys++[(cw.mk jf gA jg jm jn jD)]) h2 h3 (fun b hb=>(h4 b hb).imp id (fun e=>by have:=cE.size hba;omega)) ((dP.gI _ hba).trans h5)
      have hl9:(keys++[(cw.mk jf gA jg jm jn jD)]).length=keys.length+1:=aK
      rw[hl9]at p4 p5
      have Bm:=zJ (W0:=w) hB h5 (fun b hb=>Gk.out.lt b hb) hgl hgq p2 p3 p4 p5 p1
      have hkq:=p1
      exact hK.out _ _ ⟨fun h=>absurd (show true=false from h) aF,hkq,dF,dL,dK,ek,ep,eu,dX,ew,ey,fun _ h=>absurd (show true=false from h) aF,fun _=>Bm,gu,eF⟩
     case s11 =>
      intro uf wa s hs ha cl hJ K hK
      obtain⟨dt,eE,dF,dL,dK,ek,ep,eu,dX,ew,ey,eK,eL,gu,eF⟩:=hJ
      have xa:=dF (ha 0 aC)
      simp only[Act.put,aa,ab,ae,af,ag,ah]at hK |-
      rw[xa]at hK |-
      go_simp
      exact hK.out _ _ ⟨dt,eE,dF,dL,dK,ek,ep,eu,dX,ew,ey,eK,eL,fun _=>rfl,eF⟩
     case s12 =>
      intro uf wa s hs ha cl hJ K hK
      obtain⟨dt,eE,dF,dL,dK,ek,ep,eu,dX,ew,ey,eK,eL,gu,eF⟩:=hJ
      have Ry:=gu (ha 11 aC)
      simp only[Act.put,aa,ab,ae,af,ag,ah]at hK |-
      rw[Ry]at hK |-
      go_simp
      exact hK.out _ _ ⟨dt,eE,dF,dL,dK,ek,ep,eu,dX,ew,ey,eK,eL,gu,fun _=>rfl⟩
    case hlast =>
     simp only[iT,Act.put,aa,ab,ae,af,ag,ah]
     intro uf wa ⟨s,hall,hJ⟩ K hK
     obtain⟨dt,eE,dF,dL,dK,ek,ep,eu,dX,ew,ey,eK,eL,gu,eF⟩:=hJ
     have Ei:=eF (hall 12 aF)
     obtain⟨A9,c9,ME,hcl,hfz,⟨L9,rD⟩,rz,uG,hblk,LV⟩:=eL (hall 10 aF)
     clear dt eE dF dL dK ek ep eu dX ew ey eK eL gu eF hall
     rw[ME]at rD rz uG hblk LV
     rw[Ei,ME]at hK |-
     have hfz1:=hfz (o1+m2*5+4)
     go_simp
     refine hK.out undef _ ?_
     clear hK
     obtain⟨wz2,Rv⟩:∃x,wa.setCell ⟨b1,o1+m2*5+4,none⟩ (.slice A9 (keys.length+1) c9)=x:=⟨_,rfl⟩
     rw[Rv]at rD rz uG hblk LV |-
     clear Rv hcl hfz hfz1 Ei ME
     have LY:=hide rD
     have Gm:=hide rz
     have zF:=hide (pW.out.block uG (hblk r5 (by have:=TG.out;omega) pW.out.lt))
     have lq3:=ak Yg uG
     have hNz:N<=wz2.heap.size:=al hNw uG
     have sK:m2<(x2.set m2 (.mk 3 qJ qL its (keys++[(cw.mk jf gA jg jm jn jD)]))).length:=by rw[List.length_set];exact hm2
     have hx3:(x2.set m2 (cz.mk 3 qJ qL its (keys++[(cw.mk jf gA jg jm jn jD)])))[m2]=.mk 3 qJ qL its (keys++[(cw.mk jf gA jg jm jn jD)]):=List.getElem_set_self sK
     obtain⟨g,o,c2g,A3,c3,L3,Gn,Rw,Rx,aao,hrow3,hn3,Gp⟩:=LY.out.growI hNz sK hx3
     obtain⟨kg,-,rfl⟩:=slice_inj (LV.symm.trans Gn)
     obtain⟨rfl,rfl⟩:b1=g/\o1=o:=by simpa using kg
     have Gq:=hide hrow3
     have HN3:=hide hn3
     have SI:=hide Gp
     clear rD rz hblk hrow3 hn3 Gp kg Gn hx3 sK
     generalize uf 0=v0
     generalize uf 1=v1
     generalize uf 2=v2
     generalize uf 3=v3
     generalize uf 4=v4
     generalize uf 5=v5
     generalize uf 6=v6
     generalize uf 7=v7
     generalize uf 8=v8
     generalize uf 9=v9
     generalize uf 10=v10
     generalize uf 11=v11
     generalize uf 12=v12
     clear uf
     go_upto_region 21 with (fail)
     refine eP 10 (fun s f wq=>(s 7=false->cE wz2 wq)/\(wq.cell? ⟨q,2,none⟩=some (.slice (some ⟨b1,o1,none⟩) x2.length c2))/\(s 0=true->(f 0)=.pointer (some ⟨b1,o1+m2*5,none⟩))/\(s 1=true->(f 1)=.pointer (some ⟨b1,o1+m2*5,none⟩))/\(s 2=true->(f 2)=.pointer (some ⟨b1,o1+m2*5,none⟩))/\(s 3=true->(f 3)=.pointer (some ⟨b1,o1+m2*5+3,none⟩))/\(s 4=true->(f 4)=.slice A3 its.length c3)/\(s 5=true->(f 5)=.agg #[.int .i64 vk,.int .i64 vn,.int .i64 vi,.string vt,.int .i64 vl,.int .i64 vh])/\(s 6=true->s 7=false->Eb wz2.heap.size wq (f 6) #[.int .i64 vk,.int .i64 vn,.int .i64 vi,.string vt,.int .i64 vl,.int .i64 vh] 34)/\(s 7=true->Gh N wz2 wz2 wq q b1 (o1+m2*5+3) (.slice A3 its.length c3) (its.length+1) vs (cv.mk x0 x1 ((x2.set m2 (.mk 3 qJ qL its (keys++[(cw.mk jf gA jg jm jn jD)]))).set m2 (.mk 3 qJ qL (its++[(⟨vk,vn,vi,vt,vl,vh⟩:cV).tv]) (keys++[(cw.mk jf gA jg jm jn jD)]))) x3 x4 x5 x6 x7 x8 x9 x10 x11 x12) wz2.heap.size (.slice (some ⟨b1,o1,none⟩) x2.length c2) (f 7))/\(s 8=true->(f 8)=.pointer (some ⟨b1,o1+m2*5,none⟩))/\(s 9=true->(f 9)=.pointer (some ⟨b1,o1+m2*5+3,none⟩))) [(0,some 130),(1,some 131),(2,some 132),(3,some 133),(4,some 134),(5,some 135),(6,some 136),(7,some 137),(8,some 138),(9,some 139),(10,none)] rfl aC aC ?hJ rfl ?hstep ?hlast
     case hJ=>exact fun u=>⟨fun _=>bl,(cE.box (W:=wz2) bl q lq3 2).trans LV,(fun h=>absurd h ai),(fun h=>absurd h ai),(fun h=>absurd h ai),(fun h=>absurd h ai),(fun h=>absurd h ai),(fun h=>absurd h ai),(fun h _=>absurd h ai),(fun h=>absurd h ai),(fun h=>absurd h ai),(fun h=>absurd h ai)⟩
     case hstep =>
      simp only[iT,Act.put,aa,ab,ae,af,ag,ah]
      refine (cB (i:=0) (i2:=1) (o:=_) rfl ?s0 (cB (i:=1) (i2:=2) (o:=_) rfl ?s1 (cB (i:=2) (i2:=3) (o:=_) rfl ?s2 (cB (i:=3) (i2:=4) (o:=_) rfl ?s3 (cB (i:=4) (i2:=5) (o:=_) rfl ?s4 (cB (i:=5) (i2:=6) (o:=_) rfl ?s5 (cB (i:=6) (i2:=7) (o:=_) rfl ?s6 (cB (i:=7) (i2:=8) (o:=_) rfl ?s7 (cB (i:=8) (i2:=9) (o:=_) rfl ?s8 (cB (i:=9) (i2:=10) (o:=_) rfl ?s9 (gD aF)))))))))))
      case s0 =>
       intro uf wa s hs ha cl hJ K hK
       obtain⟨dt,eE,dF,dL,dK,ek,ep,dC,eK,eL,gu,eF⟩:=hJ
       simp only[Act.put,aa,ab,ae,af,ag,ah]at hK |-
       go_simp
       exact hK.out _ _ ⟨dt,eE,fun _=>rfl,dL,dK,ek,ep,dC,eK,eL,gu,eF⟩
      case s1 =>
       intro uf wa s hs ha cl hJ K hK
       obtain⟨dt,eE,dF,dL,dK,ek,ep,dC,eK,eL,gu,eF⟩:=hJ
       simp only[Act.put,aa,ab,ae,af,ag,ah]at hK |-
       go_simp
       exact hK.out _ _ ⟨dt,eE,dF,fun _=>rfl,dK,ek,ep,dC,eK,eL,gu,eF⟩
      case s2 =>
       intro uf wa s hs ha cl hJ K hK
       obtain⟨dt,eE,dF,dL,dK,ek,ep,dC,eK,eL,gu,eF⟩:=hJ
       have Bl:=dL (ha 1 aC)
       simp only[Act.put,aa,ab,ae,af,ag,ah]at hK |-
       rw[Bl]at hK |-
       go_simp
       exact hK.out _ _ ⟨dt,eE,dF,dL,fun _=>rfl,ek,ep,dC,eK,eL,gu,eF⟩
      case s3 =>
       intro uf wa s hs ha cl hJ K hK
       obtain⟨dt,eE,dF,dL,dK,ek,ep,dC,eK,eL,gu,eF⟩:=hJ
       have Bk:=dK (ha 2 aC)
       simp only[Act.put,aa,ab,ae,af,ag,ah]at hK |-
       rw[Bk]at hK |-
       go_simp
       exact hK.out _ _ ⟨dt,eE,dF,dL,dK,fun _=>rfl,ep,dC,eK,eL,gu,eF⟩
      case s4 =>
       intro uf wa s hs ha cl hJ K hK
       obtain⟨dt,eE,dF,dL,dK,ek,ep,dC,eK,eL,gu,eF⟩:=hJ
       have Eg:=ek (ha 3 aC)
       have hap:s 7=false:=by
        cases hq:s 7 with
        | false=>rfl
        | true=>exact absurd (cl 7 hq 4 aC) aZ
       have hB:=dt hap
       simp only[Act.put,aa,ab,ae,af,ag,ah]at hK |-
       rw[Eg]at hK |-
       have q1:=(hB.box b1 Rx _).trans Rw
       go_simp
       exact hK.out _ _ ⟨dt,eE,dF,dL,dK,ek,fun _=>rfl,dC,eK,eL,gu,eF⟩
      case s5 =>
       intro uf wa s hs ha cl hJ K hK
       obtain⟨dt,eE,dF,dL,dK,ek,ep,dC,eK,eL,gu,eF⟩:=hJ
       have hap:s 7=false:=by
        cases hq:s 7 with
        | false=>rfl
        | true=>exact absurd (cl 6 (cl 7 hq 6 aC) 5 aC) aZ
       have hB:=dt hap
       simp only[Act.put,aa,ab,ae,af,ag,ah]at hK |-
       have q0:=(hB.box r5 zF.out.lt 0).trans zF.out.c0
       have q1:=(hB.box r5 zF.out.lt 1).trans zF.out.c1
       have q2:=(hB.box r5 zF.out.lt 2).trans zF.out.c2
       have q3:=(hB.box r5 zF.out.lt 3).trans zF.out.c3
       have q4:=(hB.box r5 zF.out.lt 4).trans zF.out.c4
       have q5:=(hB.box r5 zF.out.lt 5).trans zF.out.c5
       go_simp
       exact hK.out _ _ ⟨dt,eE,dF,dL,dK,ek,ep,fun _=>rfl,eK,eL,gu,eF⟩
      case s6 =>
       intro uf wa s hs ha cl hJ K hK
       obtain⟨dt,eE,dF,dL,dK,ek,ep,dC,eK,eL,gu,eF⟩:=hJ
       have mZ:=dC (ha 5 aC)
       have hap:s 7=false:=by
        cases hq:s 7 with
        | false=>rfl
        | true=>exact absurd (cl 7 hq 6 aC) aZ
       have hB:=dt hap
       simp only[Act.put,aa,ab,ae,af,ag,ah]at hK |-
       rw[mZ]at hK |-
       have BB:=cE.size hB
       have hbx:cE wa (wa.alloc (.cells #[.int .i64 vk,.int .i64 vn,.int .i64 vi,.string vt,.int .i64 vl,.int .i64 vh] 34)):=bl
       go_simp
       exact hK.out _ _ ⟨fun h=>(dt h).trans hbx,(hbx.box q (ak lq3 BB) 2).trans eE,dF,dL,dK,ek,ep,dC,fun _ _=>⟨wa.heap.size,rfl,BB,heap_alloc_new _ _⟩,fun h=>absurd (hap.symm.trans h) ai,gu,eF⟩
      case s7 =>
       intro uf wa s hs ha cl hJ K hK
       obtain⟨dt,eE,dF,dL,dK,ek,ep,dC,eK,eL,gu,eF⟩:=hJ
       have Eh:=ep (ha 4 aC)
       have Ig:=eK (ha 6 aC)
       have hap:s 7=false:=hs
       have hB:=dt hap
       simp only[Act.put,aa,ab,ae,af,ag,ah]at hK |-
       rw[Eh]at hK |-
       obtain⟨gl,Ih,aam,Ii⟩:=Ig hap
       rw[Ih]at hK |-
       refine nF (.tmp 134) (.tmp 136) 27 rfl 34 iv (.agg #[.int .i64 0,.int .i64 0,.int .i64 0,.string ByteArray.empty,.int .i64 0,.int .i64 0]) Tryz.underlying27 Ek Mj Mk Ml aF (Gq.out.bel hB) HN3.out HV.out rfl rfl (Eb.src Ii) (by have:=HLEN.out;omega) fun A9 c9 L9 w9 h2 h3 h4 h5=>?_
       obtain⟨p1,p2,p3,p4,p5⟩:=SI.out w9 A9 c9 L9 (its++[(⟨vk,vn,vi,vt,vl,vh⟩:cV).tv]) h2 h3 (fun b hb=>(h4 b hb).imp id (fun e=>by have:=cE.size hB;omega)) ((dP.gI _ hB).trans h5)
       have hl9:(its++[(⟨vk,vn,vi,vt,vl,vh⟩:cV).tv]).length=its.length+1:=aK
       rw[hl9]at p4 p5
       rw[List.length_set]at p1
       have Bm:=zJ (W0:=wz2) hB h5 (fun b hb=>Gq.out.lt b hb) Rx aao p2 p3 p4 p5 p1
       have hkq:=p1
       exact hK.out _ _ ⟨fun h=>absurd (show true=false from h) aF,hkq,dF,dL,dK,ek,ep,dC,fun _ h=>absurd (show true=false from h) aF,fun _=>Bm,gu,eF⟩
      case s8 =>
       intro uf wa s hs ha cl hJ K hK
       obtain⟨dt,eE,dF,dL,dK,ek,ep,dC,eK,eL,gu,eF⟩:=hJ
       have xa:=dF (ha 0 aC)
       simp only[Act.put,aa,ab,ae,af,ag,ah]at hK |-
       rw[xa]at hK |-
       go_simp
       exact hK.out _ _ ⟨dt,eE,dF,dL,dK,ek,ep,dC,eK,eL,fun _=>rfl,eF⟩
      case s9 =>
       intro uf wa s hs ha cl hJ K hK
       obtain⟨dt,eE,dF,dL,dK,ek,ep,dC,eK,eL,gu,eF⟩:=hJ
       have Ry:=gu (ha 8 aC)
       simp only[Act.put,aa,ab,ae,af,ag,ah]at hK |-
       rw[Ry]at hK |-
       go_simp
       exact hK.out _ _ ⟨dt,eE,dF,dL,dK,ek,ep,dC,eK,eL,gu,fun _=>rfl⟩
     case hlast =>
      simp only[iT,Act.put,aa,ab,ae,af,ag,ah]
      intro uf wa ⟨s,hall,hJ⟩ K hK
      obtain⟨dt,eE,dF,dL,dK,ek,ep,dC,eK,eL,gu,eF⟩:=hJ
      have Ei:=eF (hall 9 aF)
      obtain⟨A9,c9,ME,hcl,hfz,⟨L9,rD⟩,rz,uG,hblk,LV⟩:=eL (hall 7 aF)
      clear dt eE dF dL dK ek ep dC eK eL gu eF hall
      exact Yi
end Go.Proofs.YtjngkknbpfgdcaaGreatDoor
