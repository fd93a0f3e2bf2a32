import Derived.Test.YtjngkknbpfgdcaaGreatDoorVvWr6
set_option linter.unusedVariables false
set_option linter.unusedSimpArgs false
set_option maxRecDepth 100000
set_option maxHeartbeats 8000000
namespace Go.Proofs.YtjngkknbpfgdcaaGreatDoor
open Go.RowKit Go.Proofs.Tryz
theorem SF {p:Int} {n:Nat} (h:n<=120) (h1:1<=p) (h2:p<=n+1):Gi p n=p/\Fh p n=true:=by
 unfold Gi Fh
 rw[if_neg aF,if_pos ⟨h1,h2⟩,ay h,ay (show -(n:Int)<=p/\p<=n+1 by omega)]
 exact⟨rfl,rfl⟩
theorem Lm {p:Int} {n:Nat} (h:n<=120) (h1:p<=0) (h2 : -(n:Int)<=p):Gi p n=n+1+p/\Fh p n=true:=by
 unfold Gi Fh
 rw[if_neg aF,if_neg aF,if_pos ⟨h2,h1⟩,ay h,ay (show -(n:Int)<=p/\p<=n+1 by omega)]
 exact⟨rfl,rfl⟩
theorem Ek {p:Int} {n:Nat} (h:120<n\/p < -(n:Int)\/(n:Int)+1<p):Gi p n=0/\Fh p n=false:=by
 unfold Gi Fh
 by_cases h0:120<n
 ·
  rw[if_pos h0,ax (show ¬n<=120 by omega)]
  exact⟨rfl,rfl⟩
 ·
  rw[if_neg h0,if_neg aF,if_neg aF,ax (show ¬(-(n:Int)<=p/\p<=n+1) by omega),Bool.and_false]
  exact⟨rfl,rfl⟩
theorem SG {p:Int} {n:Nat}:dT (Gi p n):=by
 unfold Gi dT
 split
 ·
  omega
 ·
  split
  ·
   omega
  ·
   split <;> omega
section
variable {N:Nat} {w:World} {q:Nat} {vs:List Value} {L:List Nat} {x0:List cx} {x1:List cw} {x2:List cr} {x3:List R} {x4:cx} {x5:Int} {x6 x7:List cx} {x8:List cV} {x9:Bool} {F G Z:Int}
theorem WO.Lo (h:WO N w q (.mk x0 x1 x2 x3 x4 x5 x6 x7 x8 x9 F G Z) vs L):w.cell? ⟨q,4,none⟩=some (.string x4)/\w.cell? ⟨q,5,none⟩=some (.int .i64 x5)/\x4.size<=maxLen:=by
 obtain⟨A0,c0,L0,A1,c1,L1,A2,c2,L2,A3,c3,L3,A6,c6,L6,A7,c7,L7,A8,c8,L8,hL,tK,r0,r1,r2,r3,h4,h5,r6,r7,r8,-,Be,CU,CV⟩:=h.parts
 exact⟨by rw[h.cell 4 aI,tK];rfl,by rw[h.cell 5 aI,tK];rfl,h4⟩
end
theorem Im (s:cx):∀(f a:Nat) (v:Int) (j:Nat) (r:Int),VB v j->j+f<=12->Xw s f a v=some r->VB r 12
 | 0,a,v,j,r,hv,hj,h=>by
  simp only[Xw,Option.some.injEq]at h
  subst h
  have:=hv.le aF
  exact⟨this.1,by have:=this.2;omega⟩
 | f+1,a,v,j,r,hv,hj,h=>by
  rw[Xw]at h
  split at h
  ·
   rename_i hb
   exact Im s f (a+1) _ (j+1) r (hv.step hb.1 hb.2) aF h
  ·
   cases h
theorem SH {v:cC} (h:v.Ok):dT (Bx v):=by
 unfold Bx
 split
 ·
  exact h.n
 ·
  split
  ·
   unfold Ff
   split
   ·
    unfold dT;simp
   ·
    rename_i hz
    split
    ·
     unfold dT;simp
    ·
     rename_i x hx
     have h:=Im (tw v) _ _ 0 0 x VB.zero aF hx
     obtain⟨h1,h2⟩:=h
     have h3:x<1000000000000:=by simpa using h2
     unfold dT
     split <;> (simp only[];omega)
  ·
   unfold dT;simp
theorem CE (p:Int) (n:Nat) (w:World) (hp:dT p) (hn:n<=1000000):Calls prog 93 #[.int .i64 p,.int .i64 (n:Int)] w fun e w'=>e=.returned (.tuple #[.int .i64 (Gi p n),.bool (Fh p n)])/\U w w':=by
 unfold dT at hp
 have d0:decide ((n:Int)<0)=false:=ax aF
 have s1:IntKind.i64.wrap ((n:Int)+1)=(n:Int)+1:=aZ
 have s2:IntKind.i64.wrap (-(n:Int)) = -(n:Int):=aZ
 by_cases h0:120<n
 ·
  have d1:decide (120<(n:Int))=true:=ay aF
  have HE:=I (Ek (p:=p) (n:=n) (Or.inl h0))
  exact SI
 have d1:decide (120<(n:Int))=false:=ax aF
 by_cases h1:1<=p
 ·
  have d2:decide (1<=p)=true:=ay h1
  by_cases h2:p<=(n:Int)+1
  ·
   have d3:decide (p<=(n:Int)+1)=true:=ay h2
   have HE:=I (SF (p:=p) (n:=n) aF h1 h2)
   exact SI
  ·
   have d3:decide (p<=(n:Int)+1)=false:=ax h2
   have d4:decide (p<=0)=false:=ax aF
   have d5:decide (-(n:Int)<=p)=true:=ay aF
   have HE:=I (Ek (p:=p) (n:=n) (Or.inr (Or.inr aF)))
   exact SI
 ·
  have d2:decide (1<=p)=false:=ax h1
  have d4:decide (p<=0)=true:=ay aF
  by_cases h2 : -(n:Int)<=p
  ·
   have d5:decide (-(n:Int)<=p)=true:=ay h2
   have s3:IntKind.i64.wrap ((n:Int)+1+p)=(n:Int)+1+p:=aZ
   have HE:=I (Lm (p:=p) (n:=n) aF aF h2)
   exact SI
  ·
   have d5:decide (-(n:Int)<=p)=false:=ax h2
   have HE:=I (Ek (p:=p) (n:=n) (Or.inr (Or.inl aF)))
   exact SI
theorem CF (p:Int) (n:Nat) (w:World) (hp:dT p) (hn:n<=1000000):Calls prog 88 #[.int .i64 p,.int .i64 (n:Int)] w fun e w'=>e=.returned (.tuple #[.int .i64 (Gi p n),.bool (Fh p n)])/\U w w':=by
 unfold dT at hp
 have d0:decide ((n:Int)<0)=false:=ax aF
 have s1:IntKind.i64.wrap ((n:Int)+1)=(n:Int)+1:=aZ
 have s2:IntKind.i64.wrap (-(n:Int)) = -(n:Int):=aZ
 by_cases h0:120<n
 ·
  have d1:decide (120<(n:Int))=true:=ay aF
  have HE:=I (Ek (p:=p) (n:=n) (Or.inl h0))
  exact SJ
 have d1:decide (120<(n:Int))=false:=ax aF
 by_cases h1:1<=p
 ·
  have d2:decide (1<=p)=true:=ay h1
  by_cases h2:p<=(n:Int)+1
  ·
   have d3:decide (p<=(n:Int)+1)=true:=ay h2
   have HE:=I (SF (p:=p) (n:=n) aF h1 h2)
   exact SJ
  ·
   have d3:decide (p<=(n:Int)+1)=false:=ax h2
   have d4:decide (p<=0)=false:=ax aF
   have d5:decide (-(n:Int)<=p)=true:=ay aF
   have HE:=I (Ek (p:=p) (n:=n) (Or.inr (Or.inr aF)))
   exact SJ
 ·
  have d2:decide (1<=p)=false:=ax h1
  have d4:decide (p<=0)=true:=ay aF
  by_cases h2 : -(n:Int)<=p
  ·
   have d5:decide (-(n:Int)<=p)=true:=ay h2
   have s3:IntKind.i64.wrap ((n:Int)+1+p)=(n:Int)+1+p:=aZ
   have HE:=I (Lm (p:=p) (n:=n) aF aF h2)
   exact SJ
  ·
   have d5:decide (-(n:Int)<=p)=false:=ax h2
   have HE:=I (Ek (p:=p) (n:=n) (Or.inr (Or.inl aF)))
   exact SJ
theorem MQ (n i:Int) (t:cx) (lo hi:Int) (s:O) (gf:eE s ⟨18,n,i,t,lo,hi⟩=true) (zx:s.uB.size<=120):KI 34 s ⟨18,n,i,t,lo,hi⟩:=by
 obtain⟨x0,x1,x2,x3,x4,x5,x6,x7,x8,x9,F,G,Z⟩:=s
 replace zx:x4.size<=120:=zx
 have aci:i=1\/i=2:=by
  exact Zo
 clear gf
 rcases aci with rfl | rfl
 ·
  have R1:=fun v:cC=>I (show uz v=true->lX (O.mk x0 x1 x2 x3 x4 x5 x6 x7 x8 x9 F G Z) ⟨18,n,1,t,lo,hi⟩ v=(O.mk x0 x1 x2 x3 (tw v) 1 x6 x7 x8 x9 F G Z,0)from fun h=>by unfold lX;dsimp only;rw[if_neg aJ,if_neg aJ,if_neg aJ,if_neg aJ,if_pos rfl,if_pos h])
  have R2:=fun v:cC=>I (show uz v=false->lX (O.mk x0 x1 x2 x3 x4 x5 x6 x7 x8 x9 F G Z) ⟨18,n,1,t,lo,hi⟩ v=((O.mk x0 x1 x2 x3 x4 x5 x6 x7 x8 x9 F G Z),103)from fun h=>by unfold lX;dsimp only;rw[if_neg aJ,if_neg aJ,if_neg aJ,if_neg aJ,if_pos rfl,if_neg (by rw[h];exact aq)])
  intro v N q w vs L hW hN Ke hr hv j6
  have HV:=I hv
  obtain⟨vk,vn,vi,vt,vl,vh⟩:=v
  simp only[cC.val]
  have hq:=hW.lt
  have HW:=I hW
  clear hW hv
  go_enter func34,ntmps34
  go_upto_region 28 with (fail)
  refine cZ fun wr jO=>?_
  have jg:U w wr:=by rw[<-jO];exact bl
  have R4:=I (show V6 wr w.heap.size 18 n 1 t lo hi from by rw[<-jO];exact V6.on (V6.new w 34) (U.alloc (U.refl _) _))
  have R5:=I (show V6 wr (w.heap.size+1) vk vn vi vt vl vh from by rw[<-jO];have h:=V6.new (w.alloc (.cells #[.int .i64 18,.int .i64 n,.int .i64 1,.string t,.int .i64 lo,.int .i64 hi] 34)) 34 (k:=vk) (n:=vn) (i:=vi) (t:=vt) (lo:=vl) (hi:=vh);rw[World.size_alloc]at h;exact h)
  have W1:=I (HW.out.on jg)
  have hq:q<wr.heap.size:=au hq jg.size
  obtain⟨r4,nj⟩:∃x,w.heap.size=x:=⟨_,rfl⟩
  obtain⟨r5,nE⟩:∃x,w.heap.size+1=x:=⟨_,rfl⟩
  rw[nj]at R4
  rw[nE]at R5
  simp only[nE]
  simp only[nj]
  clear jO nj nE
  have HP:=I (j6.on jg)
  clear j6
  replace R1:=R1 (⟨vk,vn,vi,vt,vl,vh⟩:cC)
  replace R2:=R2 (⟨vk,vn,vi,vt,vl,vh⟩:cC)
  have I1:=I HV.out.tt
  obtain⟨-,-,p0,p1,p2,p3,p4,p5⟩:=R5.out
  obtain⟨tx,Kg⟩:∃x,tw (⟨vk,vn,vi,vt,vl,vh⟩:cC)=x:=⟨_,rfl⟩
  obtain⟨tb,Kh⟩:∃x,uz (⟨vk,vn,vi,vt,vl,vh⟩:cC)=x:=⟨_,rfl⟩
  rw[Kg]at R1 I1
  rw[Kh]at R1 R2
  have HX:=I Kg
  have HY:=I Kh
  clear Kg Kh HW
  cases tb
  ·
   have RR:=I (R2.out rfl)
   go_wp2_with (go_at_call 91;refine (pH (⟨vk,vn,vi,vt,vl,vh⟩:cC) _ HV.out).mono ?_;rintro e w1 ⟨rfl,dE⟩;rw[HX.out,HY.out];have k1:U wr w1:=U.trans bl dE;have W2:=I (W1.out.on k1);have Dh:=W2.out.lt;have Ui:=W2.out.fr;obtain⟨e4,e5,-⟩:=W2.out.Lo;clear dE)
   all_goals
    exact Lp
  ·
   have RR:=I (R1.out rfl)
   go_wp2_with (go_at_call 91;refine (pH (⟨vk,vn,vi,vt,vl,vh⟩:cC) _ HV.out).mono ?_;rintro e w1 ⟨rfl,dE⟩;rw[HX.out,HY.out];have k1:U wr w1:=U.trans bl dE;have W2:=I (W1.out.on k1);have Dh:=W2.out.lt;have Ui:=W2.out.fr;obtain⟨e4,e5,-⟩:=W2.out.Lo;clear dE)
   all_goals
    exact Zp
 ·
  have R1:=fun v:cC=>I (show DS v=true->Fh (Bx v) x4.size=true->lX (O.mk x0 x1 x2 x3 x4 x5 x6 x7 x8 x9 F G Z) ⟨18,n,2,t,lo,hi⟩ v=(O.mk x0 x1 x2 x3 x4 (Gi (Bx v) x4.size) x6 x7 x8 x9 F G Z,0)from fun h h2=>by unfold lX;dsimp only;rw[if_neg aJ,if_neg aJ,if_neg aJ,if_neg aJ,if_neg aJ,if_pos h,if_pos h2])
  have R2:=fun v:cC=>I (show DS v=true->Fh (Bx v) x4.size=false->lX (O.mk x0 x1 x2 x3 x4 x5 x6 x7 x8 x9 F G Z) ⟨18,n,2,t,lo,hi⟩ v=((O.mk x0 x1 x2 x3 x4 x5 x6 x7 x8 x9 F G Z),-1)from fun h h2=>by unfold lX;dsimp only;rw[if_neg aJ,if_neg aJ,if_neg aJ,if_neg aJ,if_neg aJ,if_pos h,if_neg (by rw[h2];exact aq)])
  have R3:=fun v:cC=>I (show DS v=false->lX (O.mk x0 x1 x2 x3 x4 x5 x6 x7 x8 x9 F G Z) ⟨18,n,2,t,lo,hi⟩ v=((O.mk x0 x1 x2 x3 x4 x5 x6 x7 x8 x9 F G Z),101)from fun h=>by unfold lX;dsimp only;rw[if_neg aJ,if_neg aJ,if_neg aJ,if_neg aJ,if_neg aJ,if_neg (by rw[h];exact aq)])
  intro v N q w vs L hW hN Ke hr hv j6
  have HV:=I hv
  obtain⟨vk,vn,vi,vt,vl,vh⟩:=v
  simp only[cC.val]
  have hq:=hW.lt
  have HW:=I hW
  clear hW hv
  go_enter func34,ntmps34
  go_upto_region 34 with (fail)
  refine cZ fun wr jO=>?_
  have jg:U w wr:=by rw[<-jO];exact bl
  have R4:=I (show V6 wr w.heap.size 18 n 2 t lo hi from by rw[<-jO];exact V6.on (V6.new w 34) (U.alloc (U.refl _) _))
  have R5:=I (show V6 wr (w.heap.size+1) vk vn vi vt vl vh from by rw[<-jO];have h:=V6.new (w.alloc (.cells #[.int .i64 18,.int .i64 n,.int .i64 2,.string t,.int .i64 lo,.int .i64 hi] 34)) 34 (k:=vk) (n:=vn) (i:=vi) (t:=vt) (lo:=vl) (hi:=vh);rw[World.size_alloc]at h;exact h)
  have W1:=I (HW.out.on jg)
  have hq:q<wr.heap.size:=au hq jg.size
  obtain⟨r4,nj⟩:∃x,w.heap.size=x:=⟨_,rfl⟩
  obtain⟨r5,nE⟩:∃x,w.heap.size+1=x:=⟨_,rfl⟩
  rw[nj]at R4
  rw[nE]at R5
  simp only[nE]
  simp only[nj]
  clear jO nj nE
  have HP:=I (j6.on jg)
  clear j6
  replace R1:=R1 (⟨vk,vn,vi,vt,vl,vh⟩:cC)
  replace R2:=R2 (⟨vk,vn,vi,vt,vl,vh⟩:cC)
  replace R3:=R3 (⟨vk,vn,vi,vt,vl,vh⟩:cC)
  have I1:=I (SH HV.out)
  obtain⟨-,-,p0,p1,p2,p3,p4,p5⟩:=R5.out
  obtain⟨tx,Kg⟩:∃x,Bx (⟨vk,vn,vi,vt,vl,vh⟩:cC)=x:=⟨_,rfl⟩
  obtain⟨tb,Kh⟩:∃x,DS (⟨vk,vn,vi,vt,vl,vh⟩:cC)=x:=⟨_,rfl⟩
  rw[Kg]at R1 R2 I1
  rw[Kh]at R1 R2 R3
  have HX:=I Kg
  have HY:=I Kh
  clear Kg Kh HW
  obtain⟨px,WB⟩:∃x,Gi tx x4.size=x:=⟨_,rfl⟩
  obtain⟨pb,WC⟩:∃x,Fh tx x4.size=x:=⟨_,rfl⟩
  have Vq:=I (show dT px from by rw[<-WB];exact SG)
  rw[WB,WC]at R1
  rw[WC]at R2
  have HZ:=I WB
  have HZ2:=I WC
  clear WB WC
  cases tb
  ·
   have RR:=I (R3.out rfl)
   go_wp2_with (go_at_call 92;refine (np (⟨vk,vn,vi,vt,vl,vh⟩:cC) _ HV.out).mono ?_;rintro e w1 ⟨rfl,dE⟩;rw[HX.out,HY.out];have k1:U wr w1:=U.trans bl dE;have W2:=I (W1.out.on k1);have Dh:=W2.out.lt;have Ui:=W2.out.fr;obtain⟨e4,e5,-⟩:=W2.out.Lo;clear dE)
   all_goals
    exact Lp
  cases pb
  ·
   have RR:=I (R2.out rfl rfl)
   go_wp2_with (first | (go_at_call 92;refine (np (⟨vk,vn,vi,vt,vl,vh⟩:cC) _ HV.out).mono ?_;rintro e w1 ⟨rfl,dE⟩;rw[HX.out,HY.out];have k1:U wr w1:=U.trans bl dE;have W2:=I (W1.out.on k1);have Dh:=W2.out.lt;have Ui:=W2.out.fr;obtain⟨e4,e5,-⟩:=W2.out.Lo;clear dE) | (go_at_call 93;refine (CE tx x4.size _ I1.out aF).mono ?_;rintro e w2 ⟨rfl,gC⟩;rw[HZ.out,HZ2.out];have k2:U wr w2:=U.trans k1 (U.trans bl gC);have W3:=I (W1.out.on k2);have P2:=W3.out.lt;have hf2:=W3.out.fr;obtain⟨m4,m5,-⟩:=W3.out.Lo;clear gC))
   all_goals
    exact Zq
  ·
   have RR:=I (R1.out rfl rfl)
   go_wp2_with (first | (go_at_call 92;refine (np (⟨vk,vn,vi,vt,vl,vh⟩:cC) _ HV.out).mono ?_;rintro e w1 ⟨rfl,dE⟩;rw[HX.out,HY.out];have k1:U wr w1:=U.trans bl dE;have W2:=I (W1.out.on k1);have Dh:=W2.out.lt;have Ui:=W2.out.fr;obtain⟨e4,e5,-⟩:=W2.out.Lo;clear dE) | (go_at_call 93;refine (CE tx x4.size _ I1.out aF).mono ?_;rintro e w2 ⟨rfl,gC⟩;rw[HZ.out,HZ2.out];have k2:U wr w2:=U.trans k1 (U.trans bl gC);have W3:=I (W1.out.on k2);have P2:=W3.out.lt;have hf2:=W3.out.fr;obtain⟨m4,m5,-⟩:=W3.out.Lo;clear gC))
   all_goals
    exact Zr
theorem MW (n i:Int) (t:cx) (lo hi:Int) (s:O) (gf:eE s ⟨18,n,i,t,lo,hi⟩=true) (zx:s.uB.size<=120):KI 30 s ⟨18,n,i,t,lo,hi⟩:=by
 obtain⟨x0,x1,x2,x3,x4,x5,x6,x7,x8,x9,F,G,Z⟩:=s
 replace zx:x4.size<=120:=zx
 have aci:i=1\/i=2:=by
  exact Zo
 clear gf
 rcases aci with rfl | rfl
 ·
  have R1:=fun v:cC=>I (show uz v=true->lX (O.mk x0 x1 x2 x3 x4 x5 x6 x7 x8 x9 F G Z) ⟨18,n,1,t,lo,hi⟩ v=(O.mk x0 x1 x2 x3 (tw v) 1 x6 x7 x8 x9 F G Z,0)from fun h=>by unfold lX;dsimp only;rw[if_neg aJ,if_neg aJ,if_neg aJ,if_neg aJ,if_pos rfl,if_pos h])
  have R2:=fun v:cC=>I (show uz v=false->lX (O.mk x0 x1 x2 x3 x4 x5 x6 x7 x8 x9 F G Z) ⟨18,n,1,t,lo,hi⟩ v=((O.mk x0 x1 x2 x3 x4 x5 x6 x7 x8 x9 F G Z),103)from fun h=>by unfold lX;dsimp only;rw[if_neg aJ,if_neg aJ,if_neg aJ,if_neg aJ,if_pos rfl,if_neg (by rw[h];exact aq)])
  intro v N q w vs L hW hN Ke hr hv j6
  have HV:=I hv
  obtain⟨vk,vn,vi,vt,vl,vh⟩:=v
  simp only[cC.val]
  have hq:=hW.lt
  have HW:=I hW
  clear hW hv
  go_enter func30,ntmps30
  go_upto_region 24 with (fail)
  refine cZ fun wr jO=>?_
  have jg:U w wr:=by rw[<-jO];exact bl
  have R4:=I (show V6 wr w.heap.size 18 n 1 t lo hi from by rw[<-jO];exact V6.on (V6.new w 34) (U.alloc (U.refl _) _))
  have R5:=I (show V6 wr (w.heap.size+1) vk vn vi vt vl vh from by rw[<-jO];have h:=V6.new (w.alloc (.cells #[.int .i64 18,.int .i64 n,.int .i64 1,.string t,.int .i64 lo,.int .i64 hi] 34)) 34 (k:=vk) (n:=vn) (i:=vi) (t:=vt) (lo:=vl) (hi:=vh);rw[World.size_alloc]at h;exact h)
  have W1:=I (HW.out.on jg)
  have hq:q<wr.heap.size:=au hq jg.size
  obtain⟨r4,nj⟩:∃x,w.heap.size=x:=⟨_,rfl⟩
  obtain⟨r5,nE⟩:∃x,w.heap.size+1=x:=⟨_,rfl⟩
  rw[nj]at R4
  rw[nE]at R5
  simp only[nE]
  simp only[nj]
  clear jO nj nE
  have HP:=I (j6.on jg)
  clear j6
  replace R1:=R1 (⟨vk,vn,vi,vt,vl,vh⟩:cC)
  replace R2:=R2 (⟨vk,vn,vi,vt,vl,vh⟩:cC)
  have I1:=I HV.out.tt
  obtain⟨-,-,p0,p1,p2,p3,p4,p5⟩:=R5.out
  obtain⟨tx,Kg⟩:∃x,tw (⟨vk,vn,vi,vt,vl,vh⟩:cC)=x:=⟨_,rfl⟩
  obtain⟨tb,Kh⟩:∃x,uz (⟨vk,vn,vi,vt,vl,vh⟩:cC)=x:=⟨_,rfl⟩
  rw[Kg]at R1 I1
  rw[Kh]at R1 R2
  have HX:=I Kg
  have HY:=I Kh
  clear Kg Kh HW
  cases tb
  ·
   have RR:=I (R2.out rfl)
   go_wp2_with (go_at_call 86;refine (pI (⟨vk,vn,vi,vt,vl,vh⟩:cC) _ HV.out (HP.out.on bl)).mono ?_;rintro e w1 ⟨rfl,dE⟩;rw[HX.out,HY.out];have k1:U wr w1:=U.trans bl dE;have W2:=I (W1.out.on k1);have Dh:=W2.out.lt;have Ui:=W2.out.fr;obtain⟨e4,e5,-⟩:=W2.out.Lo;clear dE)
   all_goals
    exact Lp
  ·
   have RR:=I (R1.out rfl)
   go_wp2_with (go_at_call 86;refine (pI (⟨vk,vn,vi,vt,vl,vh⟩:cC) _ HV.out (HP.out.on bl)).mono ?_;rintro e w1 ⟨rfl,dE⟩;rw[HX.out,HY.out];have k1:U wr w1:=U.trans bl dE;have W2:=I (W1.out.on k1);have Dh:=W2.out.lt;have Ui:=W2.out.fr;obtain⟨e4,e5,-⟩:=W2.out.Lo;clear dE)
   all_goals
    exact Zp
 ·
  have R1:=fun v:cC=>I (show DS v=true->Fh (Bx v) x4.size=true->lX (O.mk x0 x1 x2 x3 x4 x5 x6 x7 x8 x9 F G Z) ⟨18,n,2,t,lo,hi⟩ v=(O.mk x0 x1 x2 x3 x4 (Gi (Bx v) x4.size) x6 x7 x8 x9 F G Z,0)from fun h h2=>by unfold lX;dsimp only;rw[if_neg aJ,if_neg aJ,if_neg aJ,if_neg aJ,if_neg aJ,if_pos h,if_pos h2])
  have R2:=fun v:cC=>I (show DS v=true->Fh (Bx v) x4.size=false->lX (O.mk x0 x1 x2 x3 x4 x5 x6 x7 x8 x9 F G Z) ⟨18,n,2,t,lo,hi⟩ v=((O.mk x0 x1 x2 x3 x4 x5 x6 x7 x8 x9 F G Z),-1)from fun h h2=>by unfold lX;dsimp only;rw[if_neg aJ,if_neg aJ,if_neg aJ,if_neg aJ,if_neg aJ,if_pos h,if_neg (by rw[h2];exact aq)])
  have R3:=fun v:cC=>I (show DS v=false->lX (O.mk x0 x1 x2 x3 x4 x5 x6 x7 x8 x9 F G Z) ⟨18,n,2,t,lo,hi⟩ v=((O.mk x0 x1 x2 x3 x4 x5 x6 x7 x8 x9 F G Z),101)from fun h=>by unfold lX;dsimp only;rw[if_neg aJ,if_neg aJ,if_neg aJ,if_neg aJ,if_neg aJ,if_neg (by rw[h];exact aq)])
  intro v N q w vs L hW hN Ke hr hv j6
  have HV:=I hv
  obtain⟨vk,vn,vi,vt,vl,vh⟩:=v
  simp only[cC.val]
  have hq:=hW.lt
  have HW:=I hW
  clear hW hv
  go_enter func30,ntmps30
  go_upto_region 30 with (fail)
  refine cZ fun wr jO=>?_
  have jg:U w wr:=by rw[<-jO];exact bl
  have R4:=I (show V6 wr w.heap.size 18 n 2 t lo hi from by rw[<-jO];exact V6.on (V6.new w 34) (U.alloc (U.refl _) _))
  have R5:=I (show V6 wr (w.heap.size+1) vk vn vi vt vl vh from by rw[<-jO];have h:=V6.new (w.alloc (.cells #[.int .i64 18,.int .i64 n,.int .i64 2,.string t,.int .i64 lo,.int .i64 hi] 34)) 34 (k:=vk) (n:=vn) (i:=vi) (t:=vt) (lo:=vl) (hi:=vh);rw[World.size_alloc]at h;exact h)
  have W1:=I (HW.out.on jg)
  have hq:q<wr.heap.size:=au hq jg.size
  obtain⟨r4,nj⟩:∃x,w.heap.size=x:=⟨_,rfl⟩
  obtain⟨r5,nE⟩:∃x,w.heap.size+1=x:=⟨_,rfl⟩
  rw[nj]at R4
  rw[nE]at R5
  simp only[nE]
  simp only[nj]
  clear jO nj nE
  have HP:=I (j6.on jg)
  clear j6
  replace R1:=R1 (⟨vk,vn,vi,vt,vl,vh⟩:cC)
  replace R2:=R2 (⟨vk,vn,vi,vt,vl,vh⟩:cC)
  replace R3:=R3 (⟨vk,vn,vi,vt,vl,vh⟩:cC)
  have I1:=I (SH HV.out)
  obtain⟨-,-,p0,p1,p2,p3,p4,p5⟩:=R5.out
  obtain⟨tx,Kg⟩:∃x,Bx (⟨vk,vn,vi,vt,vl,vh⟩:cC)=x:=⟨_,rfl⟩
  obtain⟨tb,Kh⟩:∃x,DS (⟨vk,vn,vi,vt,vl,vh⟩:cC)=x:=⟨_,rfl⟩
  rw[Kg]at R1 R2 I1
  rw[Kh]at R1 R2 R3
  have HX:=I Kg
  have HY:=I Kh
  clear Kg Kh HW
  obtain⟨px,WB⟩:∃x,Gi tx x4.size=x:=⟨_,rfl⟩
  obtain⟨pb,WC⟩:∃x,Fh tx x4.size=x:=⟨_,rfl⟩
  have Vq:=I (show dT px from by rw[<-WB];exact SG)
  rw[WB,WC]at R1
  rw[WC]at R2
  have HZ:=I WB
  have HZ2:=I WC
  clear WB WC
  cases tb
  ·
   have RR:=I (R3.out rfl)
   go_wp2_with (go_at_call 87;refine (nq (⟨vk,vn,vi,vt,vl,vh⟩:cC) _ HV.out (HP.out.on bl)).mono ?_;rintro e w1 ⟨rfl,dE⟩;rw[HX.out,HY.out];have k1:U wr w1:=U.trans bl dE;have W2:=I (W1.out.on k1);have Dh:=W2.out.lt;have Ui:=W2.out.fr;obtain⟨e4,e5,-⟩:=W2.out.Lo;clear dE)
   all_goals
    exact Lp
  cases pb
  ·
   have RR:=I (R2.out rfl rfl)
   go_wp2_with (first | (go_at_call 87;refine (nq (⟨vk,vn,vi,vt,vl,vh⟩:cC) _ HV.out (HP.out.on bl)).mono ?_;rintro e w1 ⟨rfl,dE⟩;rw[HX.out,HY.out];have k1:U wr w1:=U.trans bl dE;have W2:=I (W1.out.on k1);have Dh:=W2.out.lt;have Ui:=W2.out.fr;obtain⟨e4,e5,-⟩:=W2.out.Lo;clear dE) | (go_at_call 88;refine (CF tx x4.size _ I1.out aF).mono ?_;rintro e w2 ⟨rfl,gC⟩;rw[HZ.out,HZ2.out];have k2:U wr w2:=U.trans k1 (U.trans bl gC);have W3:=I (W1.out.on k2);have P2:=W3.out.lt;have hf2:=W3.out.fr;obtain⟨m4,m5,-⟩:=W3.out.Lo;clear gC))
   all_goals
    exact Zq
  ·
   have RR:=I (R1.out rfl rfl)
   go_wp2_with (first | (go_at_call 87;refine (nq (⟨vk,vn,vi,vt,vl,vh⟩:cC) _ HV.out (HP.out.on bl)).mono ?_;rintro e w1 ⟨rfl,dE⟩;rw[HX.out,HY.out];have k1:U wr w1:=U.trans bl dE;have W2:=I (W1.out.on k1);have Dh:=W2.out.lt;have Ui:=W2.out.fr;obtain⟨e4,e5,-⟩:=W2.out.Lo;clear dE) | (go_at_call 88;refine (CF tx x4.size _ I1.out aF).mono ?_;rintro e w2 ⟨rfl,gC⟩;rw[HZ.out,HZ2.out];have k2:U wr w2:=U.trans k1 (U.trans bl gC);have W3:=I (W1.out.on k2);have P2:=W3.out.lt;have hf2:=W3.out.fr;obtain⟨m4,m5,-⟩:=W3.out.Lo;clear gC))
   all_goals
    exact Zr
def BxE (N:Nat) (w:World) (p:Value) (v0 v1 v2 v3 v4:Value):Prop:=∃g:Nat,p=.pointer (some ⟨g,0,none⟩)/\N<=g/\OB w g v0 v1 v2 v3 v4
theorem OB.SK {w:World} {b:Nat} {v0 v1 v2 v3 v4:Value} (h:OB w b v0 v1 v2 v3 v4):w.there b 0 5:=by
 obtain⟨l,f,c0,c1,c2,c3,c4⟩:=h
 intro j hj
 rcases (show j=0\/j=1\/j=2\/j=3\/j=4 by omega)with rfl | rfl | rfl | rfl | rfl
 ·
  exact⟨by rw[show 0+0=0 from rfl,c0];rfl,f _⟩
 ·
  exact⟨by rw[show 0+1=1 from rfl,c1];rfl,f _⟩
 ·
  exact⟨by rw[show 0+2=2 from rfl,c2];rfl,f _⟩
 ·
  exact⟨by rw[show 0+3=3 from rfl,c3];rfl,f _⟩
 ·
  exact⟨by rw[show 0+4=4 from rfl,c4];rfl,f _⟩
theorem OB.Zs {w:World} {b:Nat} {v0 v1 v2 v3 v4:Value} (h:OB w b v0 v1 v2 v3 v4) (u0 u1 u2 u3 u4:Value):OB (w.setCells b 0 [u0,u1,u2,u3,u4]) b u0 u1 u2 u3 u4:=((((h.yR u0).xY u1).rV u2).rT u3).CZ u4
theorem El {b:Nat} {w wa:World} (h:U w wa) (hb:w.heap.size<=b) (us:List Value):U w (wa.setCells b 0 us):=by
 have hB:=oa b 0 us wa (S:=fun x=>x≠b) (fun e=>e rfl)
 exact hB.DX h (fun x hx=>by omega)
def F6 (N:Nat) (w:World) (p:Value) (cs:Array Value) (E:TypeId):Prop:=∃g:Nat,p=.slice (some ⟨g,0,none⟩) 1 1/\N<=g/\w.heap[g]?=some (.cells cs E)
theorem F6.src {w:World} {g:Nat} {us:List Value} {E:TypeId} (h:w.heap[g]?=some (.cells us.toArray E)) (j:Nat) (u:Value) (hu:us[j]?=some u):w.cell? ((⟨g,0,none⟩:Addr).add j)=some u:=by
 rw[addr_add]
 unfold World.cell?
 simp only[h]
 simpa using hu
end Go.Proofs.YtjngkknbpfgdcaaGreatDoor
