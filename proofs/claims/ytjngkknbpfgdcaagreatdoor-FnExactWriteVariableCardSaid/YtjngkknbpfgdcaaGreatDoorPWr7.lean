import Derived.Test.YtjngkknbpfgdcaaGreatDoorPr
import Derived.Test.YtjngkknbpfgdcaaGreatDoorPWr6
import Derived.Test.YtjngkknbpfgdcaaGreatDoorPE8
import Derived.Test.YtjngkknbpfgdcaaGreatDoorPWr0
import Derived.Test.YtjngkknbpfgdcaaGreatDoorPNb
set_option linter.unusedVariables false
set_option linter.unusedSimpArgs false
set_option maxRecDepth 100000
set_option maxHeartbeats 8000000
namespace Go.Proofs.YtjngkknbpfgdcaaGreatDoor
open Go.RowKit
theorem QT {p:Int} {n:Nat} (h:n<=120) (h1:1<=p) (h2:p<=n+1):H8 p n=p/\H9 p n=true:=by
 unfold H8 H9
 rw[if_neg aB,if_pos ⟨h1,h2⟩,ar h,ar (show -(n:Int)<=p/\p<=n+1 by omega)]
 exact⟨rfl,rfl⟩
theorem JI {p:Int} {n:Nat} (h:n<=120) (h1:p<=0) (h2 : -(n:Int)<=p):H8 p n=n+1+p/\H9 p n=true:=by
 unfold H8 H9
 rw[if_neg aB,if_neg aB,if_pos ⟨h2,h1⟩,ar h,ar (show -(n:Int)<=p/\p<=n+1 by omega)]
 exact⟨rfl,rfl⟩
theorem CJ {p:Int} {n:Nat} (h:120<n\/p < -(n:Int)\/(n:Int)+1<p):H8 p n=0/\H9 p n=false:=by
 unfold H8 H9
 by_cases h0:120<n
 ·
  rw[if_pos h0,aq (show ¬n<=120 by omega)]
  exact⟨rfl,rfl⟩
 ·
  rw[if_neg h0,if_neg aB,if_neg aB,aq (show ¬(-(n:Int)<=p/\p<=n+1) by omega),Bool.and_false]
  exact⟨rfl,rfl⟩
theorem QU {p:Int} {n:Nat}:fD (H8 p n):=by
 unfold H8 fD
 split
 ·
  omega
 ·
  split
  ·
   omega
  ·
   split <;> omega
section
variable {N:Nat} {w:World} {q:Nat} {vs:List Value} {L:List Nat} {x0:List ByteArray} {x1:List cA} {x2:List cz} {x3:List cw} {x4:ByteArray} {x5:Int} {x6 x7:List ByteArray} {x8:List cJ} {x9:Bool} {x10 x11 x12:Int}
theorem WO.JJ (h:WO N w q (.mk x0 x1 x2 x3 x4 x5 x6 x7 x8 x9 x10 x11 x12) vs L):w.cell? ⟨q,4,none⟩=some (.string x4)/\w.cell? ⟨q,5,none⟩=some (.int .i64 x5)/\x4.size<=maxLen:=by
 obtain⟨A0,c0,L0,A1,c1,L1,A2,c2,L2,A3,c3,L3,A6,c6,L6,A7,c7,L7,A8,c8,L8,hL,hvs,r0,r1,r2,r3,h4,h5,r6,r7,r8,-,h10,h11,h12⟩:=h.parts
 exact⟨by rw[h.cell 4 aF,hvs];rfl,by rw[h.cell 5 aF,hvs];rfl,h4⟩
end
theorem Gi (s:ByteArray):∀(f a:Nat) (v:Int) (j:Nat) (r:Int),VB v j->j+f<=12->TW s f a v=some r->VB r 12
 | 0,a,v,j,r,hv,hj,h=>by
  simp only[TW,Option.some.injEq]at h
  subst h
  have:=hv.le aB
  exact⟨this.1,by have:=this.2;omega⟩
 | f+1,a,v,j,r,hv,hj,h=>by
  rw[TW]at h
  split at h
  ·
   rename_i hb
   exact Gi s f (a+1) _ (j+1) r (hv.step hb.1 hb.2) aB h
  ·
   cases h
theorem QV {v:cV} (h:v.Ok):fD (BA v):=by
 unfold BA
 split
 ·
  exact h.n
 ·
  split
  ·
   unfold Dh
   split
   ·
    unfold fD;simp
   ·
    rename_i hz
    split
    ·
     unfold fD;simp
    ·
     rename_i x hx
     have h:=Gi (tM v) _ _ 0 0 x VB.zero aB hx
     obtain⟨h1,h2⟩:=h
     have h3:x<1000000000000:=by simpa using h2
     unfold fD
     split <;> (simp only[];omega)
  ·
   unfold fD;simp
theorem Bh (p:Int) (n:Nat) (w:World) (hp:fD p) (hn:n<=1000000):Calls Tryz.prog 93 #[.int .i64 p,.int .i64 (n:Int)] w fun e w'=>e=.returned (.tuple #[.int .i64 (H8 p n),.bool (H9 p n)])/\cE w w':=by
 unfold fD at hp
 have d0:decide ((n:Int)<0)=false:=aq aB
 have s1:IntKind.i64.wrap ((n:Int)+1)=(n:Int)+1:=bf
 have s2:IntKind.i64.wrap (-(n:Int)) = -(n:Int):=bf
 by_cases h0:120<n
 ·
  have d1:decide (120<(n:Int))=true:=ar aB
  have HE:=hide (CJ (p:=p) (n:=n) (Or.inl h0))
  exact QW
 have d1:decide (120<(n:Int))=false:=aq aB
 by_cases h1:1<=p
 ·
  have d2:decide (1<=p)=true:=ar h1
  by_cases h2:p<=(n:Int)+1
  ·
   have d3:decide (p<=(n:Int)+1)=true:=ar h2
   have HE:=hide (QT (p:=p) (n:=n) aB h1 h2)
   exact QW
  ·
   have d3:decide (p<=(n:Int)+1)=false:=aq h2
   have d4:decide (p<=0)=false:=aq aB
   have d5:decide (-(n:Int)<=p)=true:=ar aB
   have HE:=hide (CJ (p:=p) (n:=n) (Or.inr (Or.inr aB)))
   exact QW
 ·
  have d2:decide (1<=p)=false:=aq h1
  have d4:decide (p<=0)=true:=ar aB
  by_cases h2 : -(n:Int)<=p
  ·
   have d5:decide (-(n:Int)<=p)=true:=ar h2
   have s3:IntKind.i64.wrap ((n:Int)+1+p)=(n:Int)+1+p:=bf
   have HE:=hide (JI (p:=p) (n:=n) aB aB h2)
   exact QW
  ·
   have d5:decide (-(n:Int)<=p)=false:=aq h2
   have HE:=hide (CJ (p:=p) (n:=n) (Or.inr (Or.inl aB)))
   exact QW
theorem Bi (p:Int) (n:Nat) (w:World) (hp:fD p) (hn:n<=1000000):Calls Tryz.prog 88 #[.int .i64 p,.int .i64 (n:Int)] w fun e w'=>e=.returned (.tuple #[.int .i64 (H8 p n),.bool (H9 p n)])/\cE w w':=by
 unfold fD at hp
 have d0:decide ((n:Int)<0)=false:=aq aB
 have s1:IntKind.i64.wrap ((n:Int)+1)=(n:Int)+1:=bf
 have s2:IntKind.i64.wrap (-(n:Int)) = -(n:Int):=bf
 by_cases h0:120<n
 ·
  have d1:decide (120<(n:Int))=true:=ar aB
  have HE:=hide (CJ (p:=p) (n:=n) (Or.inl h0))
  exact QX
 have d1:decide (120<(n:Int))=false:=aq aB
 by_cases h1:1<=p
 ·
  have d2:decide (1<=p)=true:=ar h1
  by_cases h2:p<=(n:Int)+1
  ·
   have d3:decide (p<=(n:Int)+1)=true:=ar h2
   have HE:=hide (QT (p:=p) (n:=n) aB h1 h2)
   exact QX
  ·
   have d3:decide (p<=(n:Int)+1)=false:=aq h2
   have d4:decide (p<=0)=false:=aq aB
   have d5:decide (-(n:Int)<=p)=true:=ar aB
   have HE:=hide (CJ (p:=p) (n:=n) (Or.inr (Or.inr aB)))
   exact QX
 ·
  have d2:decide (1<=p)=false:=aq h1
  have d4:decide (p<=0)=true:=ar aB
  by_cases h2 : -(n:Int)<=p
  ·
   have d5:decide (-(n:Int)<=p)=true:=ar h2
   have s3:IntKind.i64.wrap ((n:Int)+1+p)=(n:Int)+1+p:=bf
   have HE:=hide (JI (p:=p) (n:=n) aB aB h2)
   exact QX
  ·
   have d5:decide (-(n:Int)<=p)=false:=aq h2
   have HE:=hide (CJ (p:=p) (n:=n) (Or.inr (Or.inl aB)))
   exact QX
theorem Kd (n i:Int) (t:ByteArray) (lo hi:Int) (s:cv) (hin:inB s ⟨18,n,i,t,lo,hi⟩=true) (hsz:s.subject.size<=120):I3 34 s ⟨18,n,i,t,lo,hi⟩:=by
 obtain⟨x0,x1,x2,x3,x4,x5,x6,x7,x8,x9,x10,x11,x12⟩:=s
 replace hsz:x4.size<=120:=hsz
 have Z7:i=1\/i=2:=by
  exact Yb
 clear hin
 rcases Z7 with rfl | rfl
 ·
  have R1:=fun v:cV=>hide (show uy v=true->mi (cv.mk x0 x1 x2 x3 x4 x5 x6 x7 x8 x9 x10 x11 x12) ⟨18,n,1,t,lo,hi⟩ v=(cv.mk x0 x1 x2 x3 (tM v) 1 x6 x7 x8 x9 x10 x11 x12,0)from fun h=>by unfold mi;dsimp only;rw[if_neg aK,if_neg aK,if_neg aK,if_neg aK,if_pos rfl,if_pos h])
  have R2:=fun v:cV=>hide (show uy v=false->mi (cv.mk x0 x1 x2 x3 x4 x5 x6 x7 x8 x9 x10 x11 x12) ⟨18,n,1,t,lo,hi⟩ v=((cv.mk x0 x1 x2 x3 x4 x5 x6 x7 x8 x9 x10 x11 x12),103)from fun h=>by unfold mi;dsimp only;rw[if_neg aK,if_neg aK,if_neg aK,if_neg aK,if_pos rfl,if_neg (by rw[h];exact ai)])
  intro v N q w vs L hW hN hNq hr hv htab
  have HV:=hide hv
  obtain⟨vk,vn,vi,vt,vl,vh⟩:=v
  simp only[cV.val]
  have hq:=hW.lt
  have HW:=hide hW
  clear hW hv
  go_enter Tryz.func34,Tryz.ntmps34
  go_upto_region 28 with (fail)
  refine dO fun wr hwr=>?_
  have hbr:cE w wr:=by rw[<-hwr];exact bl
  have R4:=hide (show V6 wr w.heap.size 18 n 1 t lo hi from by rw[<-hwr];exact V6.on (V6.new w 34) (cE.alloc (cE.refl _) _))
  have R5:=hide (show V6 wr (w.heap.size+1) vk vn vi vt vl vh from by rw[<-hwr];have h:=V6.new (w.alloc (.cells #[.int .i64 18,.int .i64 n,.int .i64 1,.string t,.int .i64 lo,.int .i64 hi] 34)) 34 (k:=vk) (n:=vn) (i:=vi) (t:=vt) (lo:=vl) (hi:=vh);rw[World.size_alloc]at h;exact h)
  have W1:=hide (HW.out.on hbr)
  have hq:q<wr.heap.size:=ak hq hbr.size
  obtain⟨r4,hr4⟩:∃x,w.heap.size=x:=⟨_,rfl⟩
  obtain⟨r5,nt⟩:∃x,w.heap.size+1=x:=⟨_,rfl⟩
  rw[hr4]at R4
  rw[nt]at R5
  simp only[nt]
  simp only[hr4]
  clear hwr hr4 nt
  have HP:=hide (htab.on hbr)
  clear htab
  replace R1:=R1 (⟨vk,vn,vi,vt,vl,vh⟩:cV)
  replace R2:=R2 (⟨vk,vn,vi,vt,vl,vh⟩:cV)
  have MD:=hide HV.out.tt
  obtain⟨-,-,p0,p1,p2,p3,p4,p5⟩:=R5.out
  obtain⟨tx,htx⟩:∃x,tM (⟨vk,vn,vi,vt,vl,vh⟩:cV)=x:=⟨_,rfl⟩
  obtain⟨tb,htb⟩:∃x,uy (⟨vk,vn,vi,vt,vl,vh⟩:cV)=x:=⟨_,rfl⟩
  rw[htx]at R1 MD
  rw[htb]at R1 R2
  have HX:=hide htx
  have HY:=hide htb
  clear htx htb HW
  cases tb
  ·
   have RR:=hide (R2.out rfl)
   go_wp2_with (go_at_call 91;refine (oP (⟨vk,vn,vi,vt,vl,vh⟩:cV) _ HV.out).mono ?_;rintro e w1 ⟨rfl,hb1⟩;rw[HX.out,HY.out];have k1:cE wr w1:=cE.trans bl hb1;have W2:=hide (W1.out.on k1);have hq1:=W2.out.lt;have hf1:=W2.out.fr;obtain⟨e4,e5,-⟩:=W2.out.JJ;clear hb1)
   all_goals
    exact JK
  ·
   have RR:=hide (R1.out rfl)
   go_wp2_with (go_at_call 91;refine (oP (⟨vk,vn,vi,vt,vl,vh⟩:cV) _ HV.out).mono ?_;rintro e w1 ⟨rfl,hb1⟩;rw[HX.out,HY.out];have k1:cE wr w1:=cE.trans bl hb1;have W2:=hide (W1.out.on k1);have hq1:=W2.out.lt;have hf1:=W2.out.fr;obtain⟨e4,e5,-⟩:=W2.out.JJ;clear hb1)
   all_goals
    exact Yc
 ·
  have R1:=fun v:cV=>hide (show Dk v=true->H9 (BA v) x4.size=true->mi (cv.mk x0 x1 x2 x3 x4 x5 x6 x7 x8 x9 x10 x11 x12) ⟨18,n,2,t,lo,hi⟩ v=(cv.mk x0 x1 x2 x3 x4 (H8 (BA v) x4.size) x6 x7 x8 x9 x10 x11 x12,0)from fun h h2=>by unfold mi;dsimp only;rw[if_neg aK,if_neg aK,if_neg aK,if_neg aK,if_neg aK,if_pos h,if_pos h2])
  have R2:=fun v:cV=>hide (show Dk v=true->H9 (BA v) x4.size=false->mi (cv.mk x0 x1 x2 x3 x4 x5 x6 x7 x8 x9 x10 x11 x12) ⟨18,n,2,t,lo,hi⟩ v=((cv.mk x0 x1 x2 x3 x4 x5 x6 x7 x8 x9 x10 x11 x12),-1)from fun h h2=>by unfold mi;dsimp only;rw[if_neg aK,if_neg aK,if_neg aK,if_neg aK,if_neg aK,if_pos h,if_neg (by rw[h2];exact ai)])
  have R3:=fun v:cV=>hide (show Dk v=false->mi (cv.mk x0 x1 x2 x3 x4 x5 x6 x7 x8 x9 x10 x11 x12) ⟨18,n,2,t,lo,hi⟩ v=((cv.mk x0 x1 x2 x3 x4 x5 x6 x7 x8 x9 x10 x11 x12),101)from fun h=>by unfold mi;dsimp only;rw[if_neg aK,if_neg aK,if_neg aK,if_neg aK,if_neg aK,if_neg (by rw[h];exact ai)])
  intro v N q w vs L hW hN hNq hr hv htab
  have HV:=hide hv
  obtain⟨vk,vn,vi,vt,vl,vh⟩:=v
  simp only[cV.val]
  have hq:=hW.lt
  have HW:=hide hW
  clear hW hv
  go_enter Tryz.func34,Tryz.ntmps34
  go_upto_region 34 with (fail)
  refine dO fun wr hwr=>?_
  have hbr:cE w wr:=by rw[<-hwr];exact bl
  have R4:=hide (show V6 wr w.heap.size 18 n 2 t lo hi from by rw[<-hwr];exact V6.on (V6.new w 34) (cE.alloc (cE.refl _) _))
  have R5:=hide (show V6 wr (w.heap.size+1) vk vn vi vt vl vh from by rw[<-hwr];have h:=V6.new (w.alloc (.cells #[.int .i64 18,.int .i64 n,.int .i64 2,.string t,.int .i64 lo,.int .i64 hi] 34)) 34 (k:=vk) (n:=vn) (i:=vi) (t:=vt) (lo:=vl) (hi:=vh);rw[World.size_alloc]at h;exact h)
  have W1:=hide (HW.out.on hbr)
  have hq:q<wr.heap.size:=ak hq hbr.size
  obtain⟨r4,hr4⟩:∃x,w.heap.size=x:=⟨_,rfl⟩
  obtain⟨r5,nt⟩:∃x,w.heap.size+1=x:=⟨_,rfl⟩
  rw[hr4]at R4
  rw[nt]at R5
  simp only[nt]
  simp only[hr4]
  clear hwr hr4 nt
  have HP:=hide (htab.on hbr)
  clear htab
  replace R1:=R1 (⟨vk,vn,vi,vt,vl,vh⟩:cV)
  replace R2:=R2 (⟨vk,vn,vi,vt,vl,vh⟩:cV)
  replace R3:=R3 (⟨vk,vn,vi,vt,vl,vh⟩:cV)
  have MD:=hide (QV HV.out)
  obtain⟨-,-,p0,p1,p2,p3,p4,p5⟩:=R5.out
  obtain⟨tx,htx⟩:∃x,BA (⟨vk,vn,vi,vt,vl,vh⟩:cV)=x:=⟨_,rfl⟩
  obtain⟨tb,htb⟩:∃x,Dk (⟨vk,vn,vi,vt,vl,vh⟩:cV)=x:=⟨_,rfl⟩
  rw[htx]at R1 R2 MD
  rw[htb]at R1 R2 R3
  have HX:=hide htx
  have HY:=hide htb
  clear htx htb HW
  obtain⟨px,hpx⟩:∃x,H8 tx x4.size=x:=⟨_,rfl⟩
  obtain⟨pb,hpb⟩:∃x,H9 tx x4.size=x:=⟨_,rfl⟩
  have SI:=hide (show fD px from by rw[<-hpx];exact QU)
  rw[hpx,hpb]at R1
  rw[hpb]at R2
  have HZ:=hide hpx
  have HZ2:=hide hpb
  clear hpx hpb
  cases tb
  ·
   have RR:=hide (R3.out rfl)
   go_wp2_with (go_at_call 92;refine (mC (⟨vk,vn,vi,vt,vl,vh⟩:cV) _ HV.out).mono ?_;rintro e w1 ⟨rfl,hb1⟩;rw[HX.out,HY.out];have k1:cE wr w1:=cE.trans bl hb1;have W2:=hide (W1.out.on k1);have hq1:=W2.out.lt;have hf1:=W2.out.fr;obtain⟨e4,e5,-⟩:=W2.out.JJ;clear hb1)
   all_goals
    exact JK
  cases pb
  ·
   have RR:=hide (R2.out rfl rfl)
   go_wp2_with (first | (go_at_call 92;refine (mC (⟨vk,vn,vi,vt,vl,vh⟩:cV) _ HV.out).mono ?_;rintro e w1 ⟨rfl,hb1⟩;rw[HX.out,HY.out];have k1:cE wr w1:=cE.trans bl hb1;have W2:=hide (W1.out.on k1);have hq1:=W2.out.lt;have hf1:=W2.out.fr;obtain⟨e4,e5,-⟩:=W2.out.JJ;clear hb1) | (go_at_call 93;refine (Bh tx x4.size _ MD.out aB).mono ?_;rintro e w2 ⟨rfl,hb2⟩;rw[HZ.out,HZ2.out];have k2:cE wr w2:=cE.trans k1 (cE.trans bl hb2);have W3:=hide (W1.out.on k2);have hq2:=W3.out.lt;have hf2:=W3.out.fr;obtain⟨m4,m5,-⟩:=W3.out.JJ;clear hb2))
   all_goals
    exact Yd
  ·
   have RR:=hide (R1.out rfl rfl)
   go_wp2_with (first | (go_at_call 92;refine (mC (⟨vk,vn,vi,vt,vl,vh⟩:cV) _ HV.out).mono ?_;rintro e w1 ⟨rfl,hb1⟩;rw[HX.out,HY.out];have k1:cE wr w1:=cE.trans bl hb1;have W2:=hide (W1.out.on k1);have hq1:=W2.out.lt;have hf1:=W2.out.fr;obtain⟨e4,e5,-⟩:=W2.out.JJ;clear hb1) | (go_at_call 93;refine (Bh tx x4.size _ MD.out aB).mono ?_;rintro e w2 ⟨rfl,hb2⟩;rw[HZ.out,HZ2.out];have k2:cE wr w2:=cE.trans k1 (cE.trans bl hb2);have W3:=hide (W1.out.on k2);have hq2:=W3.out.lt;have hf2:=W3.out.fr;obtain⟨m4,m5,-⟩:=W3.out.JJ;clear hb2))
   all_goals
    exact Ye
theorem Kj (n i:Int) (t:ByteArray) (lo hi:Int) (s:cv) (hin:inB s ⟨18,n,i,t,lo,hi⟩=true) (hsz:s.subject.size<=120):I3 30 s ⟨18,n,i,t,lo,hi⟩:=by
 obtain⟨x0,x1,x2,x3,x4,x5,x6,x7,x8,x9,x10,x11,x12⟩:=s
 replace hsz:x4.size<=120:=hsz
 have Z7:i=1\/i=2:=by
  exact Yb
 clear hin
 rcases Z7 with rfl | rfl
 ·
  have R1:=fun v:cV=>hide (show uy v=true->mi (cv.mk x0 x1 x2 x3 x4 x5 x6 x7 x8 x9 x10 x11 x12) ⟨18,n,1,t,lo,hi⟩ v=(cv.mk x0 x1 x2 x3 (tM v) 1 x6 x7 x8 x9 x10 x11 x12,0)from fun h=>by unfold mi;dsimp only;rw[if_neg aK,if_neg aK,if_neg aK,if_neg aK,if_pos rfl,if_pos h])
  have R2:=fun v:cV=>hide (show uy v=false->mi (cv.mk x0 x1 x2 x3 x4 x5 x6 x7 x8 x9 x10 x11 x12) ⟨18,n,1,t,lo,hi⟩ v=((cv.mk x0 x1 x2 x3 x4 x5 x6 x7 x8 x9 x10 x11 x12),103)from fun h=>by unfold mi;dsimp only;rw[if_neg aK,if_neg aK,if_neg aK,if_neg aK,if_pos rfl,if_neg (by rw[h];exact ai)])
  intro v N q w vs L hW hN hNq hr hv htab
  have HV:=hide hv
  obtain⟨vk,vn,vi,vt,vl,vh⟩:=v
  simp only[cV.val]
  have hq:=hW.lt
  have HW:=hide hW
  clear hW hv
  go_enter Tryz.func30,Tryz.ntmps30
  go_upto_region 24 with (fail)
  refine dO fun wr hwr=>?_
  have hbr:cE w wr:=by rw[<-hwr];exact bl
  have R4:=hide (show V6 wr w.heap.size 18 n 1 t lo hi from by rw[<-hwr];exact V6.on (V6.new w 34) (cE.alloc (cE.refl _) _))
  have R5:=hide (show V6 wr (w.heap.size+1) vk vn vi vt vl vh from by rw[<-hwr];have h:=V6.new (w.alloc (.cells #[.int .i64 18,.int .i64 n,.int .i64 1,.string t,.int .i64 lo,.int .i64 hi] 34)) 34 (k:=vk) (n:=vn) (i:=vi) (t:=vt) (lo:=vl) (hi:=vh);rw[World.size_alloc]at h;exact h)
  have W1:=hide (HW.out.on hbr)
  have hq:q<wr.heap.size:=ak hq hbr.size
  obtain⟨r4,hr4⟩:∃x,w.heap.size=x:=⟨_,rfl⟩
  obtain⟨r5,nt⟩:∃x,w.heap.size+1=x:=⟨_,rfl⟩
  rw[hr4]at R4
  rw[nt]at R5
  simp only[nt]
  simp only[hr4]
  clear hwr hr4 nt
  have HP:=hide (htab.on hbr)
  clear htab
  replace R1:=R1 (⟨vk,vn,vi,vt,vl,vh⟩:cV)
  replace R2:=R2 (⟨vk,vn,vi,vt,vl,vh⟩:cV)
  have MD:=hide HV.out.tt
  obtain⟨-,-,p0,p1,p2,p3,p4,p5⟩:=R5.out
  obtain⟨tx,htx⟩:∃x,tM (⟨vk,vn,vi,vt,vl,vh⟩:cV)=x:=⟨_,rfl⟩
  obtain⟨tb,htb⟩:∃x,uy (⟨vk,vn,vi,vt,vl,vh⟩:cV)=x:=⟨_,rfl⟩
  rw[htx]at R1 MD
  rw[htb]at R1 R2
  have HX:=hide htx
  have HY:=hide htb
  clear htx htb HW
  cases tb
  ·
   have RR:=hide (R2.out rfl)
   go_wp2_with (go_at_call 86;refine (oQ (⟨vk,vn,vi,vt,vl,vh⟩:cV) _ HV.out (HP.out.on bl)).mono ?_;rintro e w1 ⟨rfl,hb1⟩;rw[HX.out,HY.out];have k1:cE wr w1:=cE.trans bl hb1;have W2:=hide (W1.out.on k1);have hq1:=W2.out.lt;have hf1:=W2.out.fr;obtain⟨e4,e5,-⟩:=W2.out.JJ;clear hb1)
   all_goals
    exact JK
  ·
   have RR:=hide (R1.out rfl)
   go_wp2_with (go_at_call 86;refine (oQ (⟨vk,vn,vi,vt,vl,vh⟩:cV) _ HV.out (HP.out.on bl)).mono ?_;rintro e w1 ⟨rfl,hb1⟩;rw[HX.out,HY.out];have k1:cE wr w1:=cE.trans bl hb1;have W2:=hide (W1.out.on k1);have hq1:=W2.out.lt;have hf1:=W2.out.fr;obtain⟨e4,e5,-⟩:=W2.out.JJ;clear hb1)
   all_goals
    exact Yc
 ·
  have R1:=fun v:cV=>hide (show Dk v=true->H9 (BA v) x4.size=true->mi (cv.mk x0 x1 x2 x3 x4 x5 x6 x7 x8 x9 x10 x11 x12) ⟨18,n,2,t,lo,hi⟩ v=(cv.mk x0 x1 x2 x3 x4 (H8 (BA v) x4.size) x6 x7 x8 x9 x10 x11 x12,0)from fun h h2=>by unfold mi;dsimp only;rw[if_neg aK,if_neg aK,if_neg aK,if_neg aK,if_neg aK,if_pos h,if_pos h2])
  have R2:=fun v:cV=>hide (show Dk v=true->H9 (BA v) x4.size=false->mi (cv.mk x0 x1 x2 x3 x4 x5 x6 x7 x8 x9 x10 x11 x12) ⟨18,n,2,t,lo,hi⟩ v=((cv.mk x0 x1 x2 x3 x4 x5 x6 x7 x8 x9 x10 x11 x12),-1)from fun h h2=>by unfold mi;dsimp only;rw[if_neg aK,if_neg aK,if_neg aK,if_neg aK,if_neg aK,if_pos h,if_neg (by rw[h2];exact ai)])
  have R3:=fun v:cV=>hide (show Dk v=false->mi (cv.mk x0 x1 x2 x3 x4 x5 x6 x7 x8 x9 x10 x11 x12) ⟨18,n,2,t,lo,hi⟩ v=((cv.mk x0 x1 x2 x3 x4 x5 x6 x7 x8 x9 x10 x11 x12),101)from fun h=>by unfold mi;dsimp only;rw[if_neg aK,if_neg aK,if_neg aK,if_neg aK,if_neg aK,if_neg (by rw[h];exact ai)])
  intro v N q w vs L hW hN hNq hr hv htab
  have HV:=hide hv
  obtain⟨vk,vn,vi,vt,vl,vh⟩:=v
  simp only[cV.val]
  have hq:=hW.lt
  have HW:=hide hW
  clear hW hv
  go_enter Tryz.func30,Tryz.ntmps30
  go_upto_region 30 with (fail)
  refine dO fun wr hwr=>?_
  have hbr:cE w wr:=by rw[<-hwr];exact bl
  have R4:=hide (show V6 wr w.heap.size 18 n 2 t lo hi from by rw[<-hwr];exact V6.on (V6.new w 34) (cE.alloc (cE.refl _) _))
  have R5:=hide (show V6 wr (w.heap.size+1) vk vn vi vt vl vh from by rw[<-hwr];have h:=V6.new (w.alloc (.cells #[.int .i64 18,.int .i64 n,.int .i64 2,.string t,.int .i64 lo,.int .i64 hi] 34)) 34 (k:=vk) (n:=vn) (i:=vi) (t:=vt) (lo:=vl) (hi:=vh);rw[World.size_alloc]at h;exact h)
  have W1:=hide (HW.out.on hbr)
  have hq:q<wr.heap.size:=ak hq hbr.size
  obtain⟨r4,hr4⟩:∃x,w.heap.size=x:=⟨_,rfl⟩
  obtain⟨r5,nt⟩:∃x,w.heap.size+1=x:=⟨_,rfl⟩
  rw[hr4]at R4
  rw[nt]at R5
  simp only[nt]
  simp only[hr4]
  clear hwr hr4 nt
  have HP:=hide (htab.on hbr)
  clear htab
  replace R1:=R1 (⟨vk,vn,vi,vt,vl,vh⟩:cV)
  replace R2:=R2 (⟨vk,vn,vi,vt,vl,vh⟩:cV)
  replace R3:=R3 (⟨vk,vn,vi,vt,vl,vh⟩:cV)
  have MD:=hide (QV HV.out)
  obtain⟨-,-,p0,p1,p2,p3,p4,p5⟩:=R5.out
  obtain⟨tx,htx⟩:∃x,BA (⟨vk,vn,vi,vt,vl,vh⟩:cV)=x:=⟨_,rfl⟩
  obtain⟨tb,htb⟩:∃x,Dk (⟨vk,vn,vi,vt,vl,vh⟩:cV)=x:=⟨_,rfl⟩
  rw[htx]at R1 R2 MD
  rw[htb]at R1 R2 R3
  have HX:=hide htx
  have HY:=hide htb
  clear htx htb HW
  obtain⟨px,hpx⟩:∃x,H8 tx x4.size=x:=⟨_,rfl⟩
  obtain⟨pb,hpb⟩:∃x,H9 tx x4.size=x:=⟨_,rfl⟩
  have SI:=hide (show fD px from by rw[<-hpx];exact QU)
  rw[hpx,hpb]at R1
  rw[hpb]at R2
  have HZ:=hide hpx
  have HZ2:=hide hpb
  clear hpx hpb
  cases tb
  ·
   have RR:=hide (R3.out rfl)
   go_wp2_with (go_at_call 87;refine (mD (⟨vk,vn,vi,vt,vl,vh⟩:cV) _ HV.out (HP.out.on bl)).mono ?_;rintro e w1 ⟨rfl,hb1⟩;rw[HX.out,HY.out];have k1:cE wr w1:=cE.trans bl hb1;have W2:=hide (W1.out.on k1);have hq1:=W2.out.lt;have hf1:=W2.out.fr;obtain⟨e4,e5,-⟩:=W2.out.JJ;clear hb1)
   all_goals
    exact JK
  cases pb
  ·
   have RR:=hide (R2.out rfl rfl)
   go_wp2_with (first | (go_at_call 87;refine (mD (⟨vk,vn,vi,vt,vl,vh⟩:cV) _ HV.out (HP.out.on bl)).mono ?_;rintro e w1 ⟨rfl,hb1⟩;rw[HX.out,HY.out];have k1:cE wr w1:=cE.trans bl hb1;have W2:=hide (W1.out.on k1);have hq1:=W2.out.lt;have hf1:=W2.out.fr;obtain⟨e4,e5,-⟩:=W2.out.JJ;clear hb1) | (go_at_call 88;refine (Bi tx x4.size _ MD.out aB).mono ?_;rintro e w2 ⟨rfl,hb2⟩;rw[HZ.out,HZ2.out];have k2:cE wr w2:=cE.trans k1 (cE.trans bl hb2);have W3:=hide (W1.out.on k2);have hq2:=W3.out.lt;have hf2:=W3.out.fr;obtain⟨m4,m5,-⟩:=W3.out.JJ;clear hb2))
   all_goals
    exact Yd
  ·
   have RR:=hide (R1.out rfl rfl)
   go_wp2_with (first | (go_at_call 87;refine (mD (⟨vk,vn,vi,vt,vl,vh⟩:cV) _ HV.out (HP.out.on bl)).mono ?_;rintro e w1 ⟨rfl,hb1⟩;rw[HX.out,HY.out];have k1:cE wr w1:=cE.trans bl hb1;have W2:=hide (W1.out.on k1);have hq1:=W2.out.lt;have hf1:=W2.out.fr;obtain⟨e4,e5,-⟩:=W2.out.JJ;clear hb1) | (go_at_call 88;refine (Bi tx x4.size _ MD.out aB).mono ?_;rintro e w2 ⟨rfl,hb2⟩;rw[HZ.out,HZ2.out];have k2:cE wr w2:=cE.trans k1 (cE.trans bl hb2);have W3:=hide (W1.out.on k2);have hq2:=W3.out.lt;have hf2:=W3.out.fr;obtain⟨m4,m5,-⟩:=W3.out.JJ;clear hb2))
   all_goals
    exact Ye
def BxE (N:Nat) (w:World) (p:Value) (v0 v1 v2 v3 v4:Value):Prop:=∃g:Nat,p=.pointer (some ⟨g,0,none⟩)/\N<=g/\OB w g v0 v1 v2 v3 v4
theorem OB.QY {w:World} {b:Nat} {v0 v1 v2 v3 v4:Value} (h:OB w b v0 v1 v2 v3 v4):w.there b 0 5:=by
 obtain⟨l,f,c0,c1,c2,c3,c4⟩:=h
 intro j hj
 rcases (show j=0\/j=1\/j=2\/j=3\/j=4 by omega)with rfl | rfl | rfl | rfl | rfl
 ·
  exact⟨by rw[show 0+0=0 from rfl,c0];rfl,f _⟩
 ·
  exact⟨by rw[show 0+1=1 from rfl,c1];rfl,f _⟩
 ·
  exact⟨by rw[show 0+2=2 from rfl,c2];rfl,f _⟩
 ·
  exact⟨by rw[show 0+3=3 from rfl,c3];rfl,f _⟩
 ·
  exact⟨by rw[show 0+4=4 from rfl,c4];rfl,f _⟩
theorem OB.Yf {w:World} {b:Nat} {v0 v1 v2 v3 v4:Value} (h:OB w b v0 v1 v2 v3 v4) (u0 u1 u2 u3 u4:Value):OB (w.setCells b 0 [u0,u1,u2,u3,u4]) b u0 u1 u2 u3 u4:=((((h.Dn u0).Dq u1).zT u2).xg u3).EA u4
theorem CK {b:Nat} {w wa:World} (h:cE w wa) (hb:w.heap.size<=b) (us:List Value):cE w (wa.setCells b 0 us):=by
 have hB:=nE b 0 us wa (S:=fun x=>x≠b) (fun e=>e rfl)
 exact hB.Ap h (fun x hx=>by omega)
def Eb (N:Nat) (w:World) (p:Value) (cs:Array Value) (E:TypeId):Prop:=∃g:Nat,p=.slice (some ⟨g,0,none⟩) 1 1/\N<=g/\w.heap[g]?=some (.cells cs E)
theorem Eb.src {w:World} {g:Nat} {us:List Value} {E:TypeId} (h:w.heap[g]?=some (.cells us.toArray E)) (j:Nat) (u:Value) (hu:us[j]?=some u):w.cell? ((⟨g,0,none⟩:Addr).add j)=some u:=by
 rw[addr_add]
 unfold World.cell?
 simp only[h]
 simpa using hu
end Go.Proofs.YtjngkknbpfgdcaaGreatDoor
