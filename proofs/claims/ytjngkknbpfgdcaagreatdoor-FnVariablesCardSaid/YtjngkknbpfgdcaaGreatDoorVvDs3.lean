import Derived.Test.YtjngkknbpfgdcaaGreatDoorVvF1
import Derived.Test.YtjngkknbpfgdcaaGreatDoorVvS2z
import Derived.Test.YtjngkknbpfgdcaaGreatDoorVvK7
set_option linter.unusedVariables false
set_option linter.unusedSimpArgs false
set_option maxRecDepth 100000
set_option maxHeartbeats 8000000
namespace Go.Proofs.YtjngkknbpfgdcaaGreatDoor
open Go.RowKit Go.Proofs.Tryz
theorem ic.sC {c:Nat} {w w':World} {S:Nat->Prop} (h:ic c w w') (hS:¬S c):gp S w w':=⟨h.os,h.tape,h.output,h.size,fun b hb hl=>h.block b hl (fun e=>hS (e▸hb))⟩
theorem cv.gV {c:Nat} {w w':World} {S:Nat->Prop} {q:Nat} {t:O} (h:cv w S q t) (k:ic c w w') (hS:¬S c) (hq:q≠c):cv w' S q t:=by
 obtain⟨hl,vs,hv,hc⟩:=h
 exact⟨au hl k.size,vs,Y.cA.sC (k.sC hS) (fun _ hx=>hx) hv,fun j hj=>(k.cell hl hq).trans (hc j hj)⟩
structure RdS (w:World) (S:Nat->Prop) (q:Nat) (t:O) (A2:Option Addr) (c2:Nat):Prop where
 st:cv w S q t
 cell:w.cell? ⟨q,2,none⟩=some (.slice A2 t.objects.length c2)
 row:Row w S 5 A2 c2 (t.objects.map cr.D)
theorem RdS.gV {c:Nat} {w w':World} {S:Nat->Prop} {q:Nat} {t:O} {A2:Option Addr} {c2:Nat} (h:RdS w S q t A2 c2) (k:ic c w w') (hS:¬S c) (hq:q≠c):RdS w' S q t A2 c2 :=
 ⟨h.st.gV k hS hq,(k.cell h.st.1 hq).trans h.cell,Row.sC (k.sC hS) (fun _ hx=>hx) h.row⟩
theorem RdS.of {w:World} {S:Nat->Prop} {q:Nat} {t:O} (h:cv w S q t):∃A2 c2,RdS w S q t A2 c2:=by
 obtain⟨x0,x1,x2,x3,x4,x5,x6,x7,x8,x9,F,G,Z⟩:=t
 obtain⟨A0,c0,A1,c1,A2,c2,A3,c3,A6,c6,A7,c7,A8,c8,Pg,e0,e1,e2,e3,e4,e5,e6,e7,e8,e9,iE,jc,jd,g0,g1,g2,-⟩:=cv.cells h
 exact⟨A2,c2,h,e2,g2⟩
theorem ko {P:Program} {ops:Array Oper} {Q:Exit->Act->World->Prop} {l:List Oper} {a:Act} {W:World} (h:∀wz,wz=W->wpList P ops Q l a wz):wpList P ops Q l a W:=h W rfl
def CW (w:World) (b:Nat) (k n i:Int) (t:cx) (lo hi:Int):Prop:=w.cell? ⟨b,0,none⟩=some (.int .i64 k)/\w.cell? ⟨b,1,none⟩=some (.int .i64 n)/\w.cell? ⟨b,2,none⟩=some (.int .i64 i)/\w.cell? ⟨b,3,none⟩=some (.string t)/\w.cell? ⟨b,4,none⟩=some (.int .i64 lo)/\w.cell? ⟨b,5,none⟩=some (.int .i64 hi)
theorem CW.new (w:World) (ty:TypeId) {k n i:Int} {t:cx} {lo hi:Int}:CW (w.alloc (.cells #[.int .i64 k,.int .i64 n,.int .i64 i,.string t,.int .i64 lo,.int .i64 hi] ty)) w.heap.size k n i t lo hi:=⟨by simp,by simp,by simp,by simp,by simp,by simp⟩
theorem CW.de {w w':World} {b:Nat} {k n i:Int} {t:cx} {lo hi:Int} (h:CW w b k n i t lo hi) (hb:b<w.heap.size) (k':U w w'):CW w' b k n i t lo hi:=by
 obtain⟨c0,c1,c2,c3,c4,c5⟩:=h
 exact⟨(k'.box b hb 0).trans c0,(k'.box b hb 1).trans c1,(k'.box b hb 2).trans c2,(k'.box b hb 3).trans c3,(k'.box b hb 4).trans c4,(k'.box b hb 5).trans c5⟩
theorem CW.on {w w':World} {ty:TypeId} {k n i:Int} {t:cx} {lo hi:Int} (h:U (w.alloc (.cells #[.int .i64 k,.int .i64 n,.int .i64 i,.string t,.int .i64 lo,.int .i64 hi] ty)) w'):CW w' w.heap.size k n i t lo hi:=(CW.new w ty).de aJ h
theorem mT (t:O) (S:Nat->Prop) (q c:Nat) (A:Option Addr) (n cap:Nat) (w:World) (hc:kC w c A n cap) (hs:cv w S q t) (hS:¬S c) (hq:q≠c) (hl:t.objects.length<=1048576) :
  Calls prog 25 #[.pointer (some ⟨c,0,none⟩),.pointer (some ⟨q,0,none⟩)] w (Ph w c A n cap):=by
 have HC:=I hc
 obtain⟨A2,c2,IF⟩:=RdS.of hs
 have HR:=I IF
 have Pg:=hs.1
 have e2:=IF.cell
 have jP:=hc.1
 have iP:w.heap.size≠c:=aF
 have ga:¬q=w.heap.size:=aF
 have HS:=I hS
 obtain⟨N,hN⟩:∃N:Nat,t.objects.length=N:=⟨_,rfl⟩
 rw[hN]at e2 hl
 have HN:=I hN
 clear hc hs IF hS hN
 go_enter func25,ntmps25
 go_upto_region 1 with (fail)
 go_cut [17]from 8 to 17 (fun u wx=>∃z:Bool,u=.bool z/\(z=true->0<N)/\kC wx c A n cap/\ic c w wx/\Z6 wx w.heap.size)
 case first =>
  go_wp2_with (go_at_call 42;refine (lQ 2 c A n cap _ (HC.out.de bl) aO).mono ?_;rintro e w1 ⟨z,rfl,pw,rS⟩;have mc:=I pw;have nW:=I (ic.trans (ic.dH (c:=c) (w:=w) bl) rS);have Z1:=I (Z6.gV Z6.new rS iP);clear pw rS;have e3:=(HR.out.gV nW.out HS.out hq).cell;rw[HN.out]at e3;cases z)
  all_goals go_meet
  all_goals exact⟨_,rfl,fun h=>by first | cases h | (simp at h;omega) | (have h2:=of_decide_eq_true h;omega),mc.out,nW.out,Z1.out⟩
 case rest =>
  obtain⟨z,rfl,hz,pw,rS,hZ1⟩:=hcut
  have mc:=I pw
  have nW:=I rS
  have Z1:=I hZ1
  have jZ:=rS.size
  clear pw rS hZ1
  go_upto_if 17 with (fail)
  go_cut []from 18 to 45 (fun wx=>kC wx c A n cap/\ic c w wx/\Z6 wx w.heap.size)
  case first =>
   cases z
   ·
    go_wp2_with (fail)
    all_goals go_meet
    all_goals exact⟨mc.out,nW.out,Z1.out⟩
   ·
    have WN:0<N:=hz rfl
    clear hz
    have e3:=(HR.out.gV nW.out HS.out hq).cell
    rw[HN.out]at e3
    go_upto_region 3 with (go_at_call 75;refine (dN N c A n cap _ mc.out aO).mono ?_;rintro e w2 ⟨y,y1,y2,rfl,sR,qE⟩;have sD:=I sR;have nO:=I (nW.out.trans qE);have Z2:=I (Z6.gV Z1.out qE iP);clear sR qE)
    have y3:y<=(N:Int) - 1:=by have h:=y2;unfold lZ at h;rw[if_neg aF]at h;exact h
    clear y2
    obtain⟨j,rfl⟩:=Int.eq_ofNat_of_zero_le y1
    have hj:j<N:=aF
    have hji:(j:Int)<(N:Int):=aF
    have kp:=I (HR.out.gV nO.out HS.out hq)
    have e4:=kp.out.cell
    rw[HN.out]at e4
    obtain⟨g,o,a0,a1,a2,a3,a4,B3,d3,B4,d4,mO,hSg,hlg,hx,hv,i0,i1,i2,r3,r4,k0,k1,k2,k3,k4⟩:=cr.at kp.out.row j (by rw[HN.out];exact hj)
    subst mO
    clear hv r3 r4 hx hSg
    have xX:=nO.out.size
    have h9:=Z2.out
    obtain⟨z0,z1,z2,z3,z4,z5,zf,zl⟩:=h9
    by_cases hk:2<=a0/\a0<=7
    ·
     obtain⟨m,DG⟩:=Int.eq_ofNat_of_zero_le (show 0<=a0 - 2 by omega)
     obtain rfl:a0=(m:Int)+2:=by omega
     have WQ:m<6:=aF
     have mU:(m:Int)<6:=aF
     have d1:decide (2<=(m:Int)+2)=true:=ay aF
     have d2:decide ((m:Int)+2<=7)=true:=ay aF
     go_upto_region 5 with (fail)
     refine wp_region_lit ?_
     refine wpList_plain rfl fun K hK=>?_
     go_simp
     refine hK _ _ ?_
     clear hK K
     refine ko fun w3 ve=>?_
     have jx:U w2 w3:=by rw[ve];exact bl
     obtain⟨kk,hkk,oV⟩:∃x:Int,dT x/\w3.cell? ⟨w2.heap.size,m,none⟩=some (.int .i64 x):=by rw[ve];exact (lR (w:=w2) (t:=3) [4,5,6,7,11,12] aI).2 m WQ
     have xz:=I (sD.out.de jx)
     have tq:=I (nO.out.trans (ic.dH jx))
     have Z3:=I (Z2.out.on jx)
     clear ve z0 z1 z2 z3 z4 z5 zf zl e4
     have h9:=Z3.out
     obtain⟨z0,z1,z2,z3,z4,z5,zf,zl⟩:=h9
     go_wp2_with (fail)
     refine gG (Z3.out) fun wz d0 d1 d2 d3 d4 d5 ho hf hz _=>?_
     exact bodyPost_ret (v:=((⟨kk,j,0,ByteArray.empty,0,0⟩:cC)).val) bL rfl ⟨(⟨kk,j,0,ByteArray.empty,0,0⟩:cC),⟨hkk,by show dT (j:Int);unfold dT;omega,lM,by show ByteArray.empty.size<=maxLen;decide,lM,lM⟩,rfl,kC.fin HC.out (xz.out) (ho _ _ (tq.out) (Nat.le_refl _)) (fun o=>hf _ _ (Ne.symm iP)) (fun o=>hz _),ho _ _ (tq.out) (Nat.le_refl _)⟩
    ·
     have hd:decide (2<=a0)=false\/(decide (2<=a0)=true/\decide (a0<=7)=false):=by
      by_cases h:2<=a0
      ·
       exact Or.inr ⟨ay h,ax aF⟩
      ·
       exact Or.inl (ax h)
     rcases hd with d1 | ⟨d1,d2⟩
     all_goals
      go_wp2_with (fail)
      all_goals go_meet
      all_goals exact⟨sD.out,nO.out,Z2.out⟩
  case rest =>
   clear mc nW Z1 jZ hz
   obtain⟨pw,rS,hZ1⟩:=hcut
   have mc:=I pw
   have nW:=I rS
   have Z1:=I hZ1
   have jZ:=rS.size
   clear pw rS hZ1
   go_upto_if 50 with (first
    | (go_at_call 43;refine (zw c A n cap _ mc.out).mono ?_;rintro e w2 ⟨⟨k,m,i,s,lo,hi⟩,hv,he,sR,qE⟩;replace he:e=.returned (.agg #[.int .i64 k,.int .i64 m,.int .i64 i,.string s,.int .i64 lo,.int .i64 hi]):=he;subst he;have HV:=I hv;have sD:=I sR;have nO:=I (nW.out.trans qE);have Z2:=I (Z6.gV Z1.out qE iP);clear sR qE hv;have fx:=HV.out.t;unfold maxLen at fx;simp only at fx)
    | (go_at_call 31;refine (kK t ⟨k,m,i,s,lo,hi⟩ S q _ (cv.de bl (HR.out.gV nO.out HS.out hq).st) HV.out).mono ?_;rintro e w3 ⟨rfl,jx⟩))
   have xz:=I (sD.out.de (w':=w3) bl)
   have tq:=I (nO.out.trans (ic.dH (w':=w3) bl))
   have Z3:=I (Z2.out.on (w':=w3) bl)
   have B3:CW w3 w2.heap.size k m i s lo hi:=CW.on jx
   obtain⟨b0,b1,b2,b3,b4,b5⟩:=B3
   have h9:=Z3.out
   obtain⟨z0,z1,z2,z3,z4,z5,zf,zl⟩:=h9
   cases gn t ⟨k,m,i,s,lo,hi⟩
   ·
    go_wp2_with (first
     | (go_at_call 75;refine (dN 5 c A n cap _ xz.out aO).mono ?_;rintro e w4 ⟨y,y1,y2,rfl,Pj,CX⟩;have y3:y<=4:=y2;have Ge:=I Pj;have Gt:=I (tq.out.trans CX);have Z4:=I (Z6.gV Z3.out CX iP);clear Pj CX y2)
     | (go_at_call 73;refine (kf y _).mono ?_;rintro e w5 ⟨rfl,xA⟩;have Um:=I (Ge.out.de xA);have py:=I (Gt.out.trans (ic.dH xA));have Z5:=I (Z4.out.on xA);have h5:=Z5.out;obtain⟨z0,z1,z2,z3,z4,z5,zf,zl⟩:=h5;clear xA))
    refine gG (Z5.out) fun wz d0 d1 d2 d3 d4 d5 ho hf hz _=>?_
    exact bodyPost_ret (v:=(cC.ofInt y).val) bL rfl ⟨cC.ofInt y,⟨fM (by show -100<=(1:Int);omega) (by show (1:Int)<=100;omega),by show dT y;unfold dT;omega,lM,by show ByteArray.empty.size<=maxLen;decide,lM,lM⟩,rfl,kC.fin HC.out (Um.out) (ho _ _ (py.out) (Nat.le_refl _)) (fun o=>hf _ _ (Ne.symm iP)) (fun o=>hz _),ho _ _ (py.out) (Nat.le_refl _)⟩
   ·
    go_wp2_with (fail)
    refine gG (Z3.out) fun wz d0 d1 d2 d3 d4 d5 ho hf hz _=>?_
    exact bodyPost_ret (v:=((⟨k,m,i,s,lo,hi⟩:cC)).val) bL rfl ⟨(⟨k,m,i,s,lo,hi⟩:cC),HV.out,rfl,kC.fin HC.out (xz.out) (ho _ _ (tq.out) (Nat.le_refl _)) (fun o=>hf _ _ (Ne.symm iP)) (fun o=>hz _),ho _ _ (tq.out) (Nat.le_refl _)⟩
theorem Lt (a b:Int) (w:World):Calls prog 82 #[.int .i64 a,.int .i64 b] w fun e w'=>(∃y:Int,(y=a\/y=b)/\e=.returned (.int .i64 y))/\U w w':=by
 go_enter func82,ntmps82
 go_wp2_with (fail)
 all_goals
  go_returns
  exact⟨⟨_,by first | exact Or.inl rfl | exact Or.inr rfl,rfl⟩,bl⟩
theorem aah {w:World} {S:Nat->Prop} {q:Nat} {t:O} (h:cv w S q t):∃A3 m c3,m<=9223372036854775807/\w.cell? ⟨q,3,none⟩=some (.slice A3 m c3):=by
 obtain⟨x0,x1,x2,x3,x4,x5,x6,x7,x8,x9,F,G,Z⟩:=t
 obtain⟨A0,c0,A1,c1,A2,c2,A3,c3,A6,c6,A7,c7,A8,c8,Pg,e0,e1,e2,e3,e4,e5,e6,e7,e8,e9,iE,jc,jd,g0,g1,g2,g3,-⟩:=cv.cells h
 have h1:=g3.1
 have h2:=g3.2.1
 simp only[ar]at h1
 unfold maxLen at h2
 exact⟨A3,x3.length,c3,by omega,e3⟩
theorem pz {m y:Int} (h:y<=lZ m):y<=0\/y<m:=by
 unfold lZ at h
 split at h <;> omega
theorem Bk (t:O) (S:Nat->Prop) (q c:Nat) (A:Option Addr) (n cap:Nat) (w:World) (hc:kC w c A n cap) (hs:cv w S q t) (hS:¬S c) (hq:q≠c) (hl:t.objects.length<=1048576) :
  Calls prog 24 #[.pointer (some ⟨c,0,none⟩),.pointer (some ⟨q,0,none⟩)] w (Ph w c A n cap):=by
 have HC:=I hc
 obtain⟨A2,c2,IF⟩:=RdS.of hs
 have HR:=I IF
 have Pg:=hs.1
 have e2:=IF.cell
 obtain⟨A3,mg,c3,hmg,eg⟩:=aah hs
 have jP:=hc.1
 have iP:w.heap.size≠c:=aF
 have ga:¬q=w.heap.size:=aF
 have HS:=I hS
 obtain⟨N,hN⟩:∃N:Nat,t.objects.length=N:=⟨_,rfl⟩
 rw[hN]at e2 hl
 have HN:=I hN
 clear hc hs IF hS hN
 go_enter func24,ntmps24
 go_upto_region 2 with (go_at_call 75;refine (dN _ c A n cap _ (HC.out.de bl) aO).mono ?_;rintro e w1 ⟨y,y1,y2,rfl,pw,rS⟩;have mc:=I pw;have nW:=I (ic.trans (ic.dH (c:=c) (w:=w) bl) rS);have Z1:=I (Z6.gV Z6.new rS iP);clear pw rS)
 have y3:y<(N:Int)+3:=by have h:=pz y2;omega
 clear y2
 have jZ:=nW.out.size
 have eg1:=(nW.out.cell Pg hq).trans eg
 have e3:=(HR.out.gV nW.out HS.out hq).cell
 rw[HN.out]at e3
 have hg0:dT (mg:Int):=aO
 by_cases h0:y=0
 ·
  subst h0
  go_wp2_with (go_at_call 75;refine (dN 2 c A n cap _ (mc.out) aO).mono ?_;rintro e w2 ⟨y2,p2,q2,rfl,hC,hO⟩;have sD:=I hC;have nO:=I (nW.out.trans hO);have Z2:=I (Z6.gV Z1.out hO iP);have h9:=Z2.out;obtain⟨z0,z1,z2,z3,z4,z5,zf,zl⟩:=h9;clear hC hO;have r2:y2<=1:=q2;clear q2)
  refine gG (Z2.out) fun wz d0 d1 d2 d3 d4 d5 ho hf hz _=>?_
  exact bodyPost_ret (v:=((⟨18,0,1+y2,ByteArray.empty,0,0⟩:cC)).val) aX rfl ⟨(⟨18,0,1+y2,ByteArray.empty,0,0⟩:cC),⟨fM (by show -100<=(18:Int);omega) (by show (18:Int)<=100;omega),lM,by show dT (1+y2);unfold dT;omega,by show ByteArray.empty.size<=maxLen;decide,lM,lM⟩,rfl,kC.fin HC.out (sD.out) (ho _ _ (nO.out) (Nat.le_refl _)) (fun o=>hf _ _ (Ne.symm iP)) (fun o=>hz _),ho _ _ (nO.out) (Nat.le_refl _)⟩
 ·
  have d0:decide (y=0)=false:=ax h0
  by_cases hk:y<=2\/(N:Int)<=y - 3
  ·
   have hd:decide (y<=2)=true\/(decide (y<=2)=false/\decide ((N:Int)<=y - 3)=true):=by
    by_cases h:y<=2
    ·
     exact Or.inl (ay h)
    ·
     exact Or.inr ⟨ax h,ay aF⟩
   rcases hd with d1 | ⟨d1,d2⟩
   all_goals
    go_wp2_with (go_at_call 75;refine (dN mg c A n cap _ (mc.out) hg0).mono ?_;rintro e w2 ⟨y2,p2,q2,rfl,hC,hO⟩;have sD:=I hC;have nO:=I (nW.out.trans hO);have Z2:=I (Z6.gV Z1.out hO iP);have h9:=Z2.out;obtain⟨z0,z1,z2,z3,z4,z5,zf,zl⟩:=h9;clear hC hO;have r2:=pz q2;clear q2)
    refine gG (Z2.out) fun wz d0 d1 d2 d3 d4 d5 ho hf hz _=>?_
    exact bodyPost_ret (v:=((⟨14,0,y2,ByteArray.empty,0,0⟩:cC)).val) aX rfl ⟨(⟨14,0,y2,ByteArray.empty,0,0⟩:cC),⟨fM (by show -100<=(14:Int);omega) (by show (14:Int)<=100;omega),lM,by show dT y2;unfold dT;omega,by show ByteArray.empty.size<=maxLen;decide,lM,lM⟩,rfl,kC.fin HC.out (sD.out) (ho _ _ (nO.out) (Nat.le_refl _)) (fun o=>hf _ _ (Ne.symm iP)) (fun o=>hz _),ho _ _ (nO.out) (Nat.le_refl _)⟩
  ·
   obtain⟨j,hj⟩:=Int.eq_ofNat_of_zero_le (show 0<=y - 3 by omega)
   obtain rfl:y=(j:Int)+3:=by omega
   have hjN:j<N:=aF
   have hji:(j:Int)<(N:Int):=aF
   have d1:decide ((j:Int)+3<=2)=false:=ax aF
   have d2:decide ((N:Int)<=(j:Int))=false:=ax aF
   clear hj hk
   have kp:=I (HR.out.gV nW.out HS.out hq)
   obtain⟨g,o,a0,a1,a2,a3,a4,B3,d3,B4,d4,mO,hSg,hlg,hx,hv,i0,i1,i2,r3,r4,k0,k1,k2,k3,k4⟩:=cr.at kp.out.row j (by rw[HN.out];exact hjN)
   subst mO
   have l3:=r3.1
   have m3:=r3.2.1
   simp only[ar]at l3
   unfold maxLen at m3
   generalize a3.length=n3 at k3 l3
   clear hv r3 r4 hx hSg i1 i2
   go_upto_region 8 with (first
    | (go_at_call 82;refine (Lt _ _ _).mono ?_;rintro e w2 ⟨⟨y2,hy2,rfl⟩,gC⟩)
    | (go_at_call 75;refine (dN y2 c A n cap w2 (mc.out.de bl) aO).mono ?_;rintro e w3 ⟨i,p3,q3,rfl,hC,hO⟩;have xz:=I hC;have tq:=I (ic.trans (nW.out.trans (ic.dH (c:=c) (w:=w1) (w':=w2) bl)) hO);have Z3:=I (Z6.gV (Z1.out.on (w':=w2) bl) hO iP);have xX:=gC.size;rw[World.size_alloc]at xX;have ad1:w3.cell? ⟨w1.heap.size,0,none⟩=some (.int .i64 a0):=(hO.cell aF aF).trans ((gC.box _ aJ 0).trans aJ);clear hC hO))
   have r3:=pz q3
   have hi:dT i:=aO
   have hj0:dT (j:Int):=aO
   have h9:=Z3.out
   obtain⟨z0,z1,z2,z3,z4,z5,zf,zl⟩:=h9
   clear r3 q3 d0 d1 d2 k0 k1 k2 k3 k4 e3 eg1
   rcases (show a0=1\/a0=2\/a0=5\/a0=8\/(a0≠1/\a0≠2/\a0≠5/\a0≠8) by omega)with rfl | rfl | rfl | rfl | ⟨n1,n2,n5,n8⟩
   ·
    go_wp2_with (fail)
    refine gG (Z3.out) fun wz d0 d1 d2 d3 d4 d5 ho hf hz _=>?_
    exact bodyPost_ret (v:=((⟨13,j,i,ByteArray.empty,0,0⟩:cC)).val) aX rfl ⟨(⟨13,j,i,ByteArray.empty,0,0⟩:cC),⟨fM (by show -100<=(13:Int);omega) (by show (13:Int)<=100;omega),hj0,hi,by show ByteArray.empty.size<=maxLen;decide,lM,lM⟩,rfl,kC.fin HC.out (xz.out) (ho _ _ (tq.out) (Nat.le_refl _)) (fun o=>hf _ _ (Ne.symm iP)) (fun o=>hz _),ho _ _ (tq.out) (Nat.le_refl _)⟩
   ·
    go_wp2_with (go_at_call 75;refine (dN 2 c A n cap _ (xz.out) aO).mono ?_;rintro e w4 ⟨y4,p4,q4,rfl,hC,hO⟩;have Ge:=I hC;have Gt:=I (tq.out.trans hO);have Z4:=I (Z6.gV Z3.out hO iP);have h9:=Z4.out;obtain⟨z0,z1,z2,z3,z4,z5,zf,zl⟩:=h9;clear hC hO;have r4:y4<=1:=q4;clear q4)
    refine gG (Z4.out) fun wz d0 d1 d2 d3 d4 d5 ho hf hz _=>?_
    exact bodyPost_ret (v:=((⟨15,j,wrap64 (i+y4),ByteArray.empty,0,0⟩:cC)).val) aX rfl ⟨(⟨15,j,wrap64 (i+y4),ByteArray.empty,0,0⟩:cC),⟨fM (by show -100<=(15:Int);omega) (by show (15:Int)<=100;omega),hj0,by show dT (wrap64 (i+y4));unfold wrap64;rw[<-IntKind.wrap_i64];exact tF _,by show ByteArray.empty.size<=maxLen;decide,lM,lM⟩,rfl,kC.fin HC.out (Ge.out) (ho _ _ (Gt.out) (Nat.le_refl _)) (fun o=>hf _ _ (Ne.symm iP)) (fun o=>hz _),ho _ _ (Gt.out) (Nat.le_refl _)⟩
   ·
    go_wp2_with (fail)
    refine gG (Z3.out) fun wz d0 d1 d2 d3 d4 d5 ho hf hz _=>?_
    exact bodyPost_ret (v:=((⟨16,j,i,ByteArray.empty,0,0⟩:cC)).val) aX rfl ⟨(⟨16,j,i,ByteArray.empty,0,0⟩:cC),⟨fM (by show -100<=(16:Int);omega) (by show (16:Int)<=100;omega),hj0,hi,by show ByteArray.empty.size<=maxLen;decide,lM,lM⟩,rfl,kC.fin HC.out (xz.out) (ho _ _ (tq.out) (Nat.le_refl _)) (fun o=>hf _ _ (Ne.symm iP)) (fun o=>hz _),ho _ _ (tq.out) (Nat.le_refl _)⟩
   ·
    go_wp2_with (fail)
    refine gG (Z3.out) fun wz d0 d1 d2 d3 d4 d5 ho hf hz _=>?_
    exact bodyPost_ret (v:=((⟨17,j,0,ByteArray.empty,0,0⟩:cC)).val) aX rfl ⟨(⟨17,j,0,ByteArray.empty,0,0⟩:cC),⟨fM (by show -100<=(17:Int);omega) (by show (17:Int)<=100;omega),hj0,lM,by show ByteArray.empty.size<=maxLen;decide,lM,lM⟩,rfl,kC.fin HC.out (xz.out) (ho _ _ (tq.out) (Nat.le_refl _)) (fun o=>hf _ _ (Ne.symm iP)) (fun o=>hz _),ho _ _ (tq.out) (Nat.le_refl _)⟩
   ·
    have n1':decide (a0=1)=false:=ax n1
    have n2':decide (a0=2)=false:=ax n2
    have n5':decide (a0=5)=false:=ax n5
    have n8':decide (a0=8)=false:=ax n8
    have eg3:=(tq.out.cell Pg hq).trans eg
    go_wp2_with (go_at_call 75;refine (dN mg c A n cap _ (xz.out) hg0).mono ?_;rintro e w4 ⟨y4,p4,q4,rfl,hC,hO⟩;have Ge:=I hC;have Gt:=I (tq.out.trans hO);have Z4:=I (Z6.gV Z3.out hO iP);have h9:=Z4.out;obtain⟨z0,z1,z2,z3,z4,z5,zf,zl⟩:=h9;clear hC hO;have r4:=pz q4;clear q4)
    refine gG (Z4.out) fun wz d0 d1 d2 d3 d4 d5 ho hf hz _=>?_
    exact bodyPost_ret (v:=((⟨14,0,y4,ByteArray.empty,0,0⟩:cC)).val) aX rfl ⟨(⟨14,0,y4,ByteArray.empty,0,0⟩:cC),⟨fM (by show -100<=(14:Int);omega) (by show (14:Int)<=100;omega),lM,by show dT y4;unfold dT;omega,by show ByteArray.empty.size<=maxLen;decide,lM,lM⟩,rfl,kC.fin HC.out (Ge.out) (ho _ _ (Gt.out) (Nat.le_refl _)) (fun o=>hf _ _ (Ne.symm iP)) (fun o=>hz _),ho _ _ (Gt.out) (Nat.le_refl _)⟩
abbrev ku:Value:=.slice none 0 0
abbrev EV (v:Value) (xs:List R):o7:=⟨34,6,v,[],xs.map R.D⟩
abbrev EO (v:Value) (L:List Nat) (xs:List cr):o7:=⟨81,5,v,L,xs.map cr.D⟩
abbrev LA (x0:List cx) (x1:List cw) (v0 v1:Value) (L1:List Nat):List o7:=[⟨9,1,v0,[],x0.map fun x=>[Y.str x]⟩,⟨109,3,v1,L1,x1.map cw.D⟩]
abbrev LG (x3:List R) (v3:Value) (le:List o7):List o7:=EV v3 x3 :: le
theorem kC.low {c:Nat} {A:Option Addr} {n cap:Nat} {w0 w w':World} (h0:kC w0 c A n cap) (h:kC w c A n cap) (hs0:w0.heap.size<=w.heap.size) (hs:w.heap.size<=w'.heap.size) (hb:∀k,k<w0.heap.size->w'.heap[k]?=w.heap[k]?):kC w' c A n cap:=by
 obtain⟨l0,-,hB0,-⟩:=h0
 obtain⟨l,f,hB,i,x,hi,c0,c1,c2⟩:=h
 have e:∀o,w'.cell? ⟨c,o,none⟩=w.cell? ⟨c,o,none⟩:=fun o=>World.cell?_of_block (hb c l0)
 refine⟨by omega,fun o=>(World.frozen?_of_block (hb c l0)).trans (f o),⟨hB.1,fun hn=>?_⟩,i,x,hi,(e 0).trans c0,(e 1).trans c1,(e 2).trans c2⟩
 obtain⟨b,o,hA,jP,hc,hj⟩:=hB.2 hn
 obtain⟨b',o',hA',Un,-,-⟩:=hB0.2 hn
 have e2:=hA.symm.trans hA'
 obtain⟨rfl,rfl⟩:b=b'/\o=o':=by simpa using e2
 exact⟨b,o,hA,by omega,hc,fun j hl=>by obtain⟨x,hx,oV⟩:=hj j hl;exact⟨x,hx,(World.cell?_of_block (hb b Un)).trans oV⟩⟩
theorem gL.sub {N:Nat} {w:World} {l l':List o7} (h:gL N w l) (hs:List.Sublist l' l):gL N w l':=⟨fun e he=>h.own e (hs.subset he),fun e he=>h.low e (hs.subset he),h.sep.sublist hs⟩
def CY (n:Nat) (m:Int):Prop:=0<=m/\m<=n/\dT m
theorem CY.more {n:Nat} {m:Int} (h:CY n m):CY (n+1) m:=⟨h.1,by have:=h.2.1;omega,h.2.2⟩
theorem CY.WR {n:Nat} {m:Int} (h:CY n m) (hn:n<=2097152):CY (n+1) (IntKind.i64.wrap (m+1)):=by
 obtain⟨h1,h2,h3⟩:=h
 have e:IntKind.i64.wrap (m+1)=m+1:=aZ
 rw[e]
 exact⟨by omega,by omega,by unfold dT;omega⟩
structure SQ (w0:World) (c q:Nat) (A:Option Addr) (n cap:Nat) (x0:List cx) (x1:List cw) (x3:List R) (v0 v1 v3:Value) (L1:List Nat) (ts:cx) (pos tk:Int) (w:World) (v2:Value) (L:List Nat) (x2:List cr) (mm:Int) (le:List o7):Prop where
 AM:kC w0 c A n cap
 cur:kC w c A n cap
 st:EY w0.heap.size w q v0 v1 v2 v3 (.string ts) (.int .i64 pos) ku ku ku (.bool false) (.int .i64 tk) (.int .i64 400) (.int .i64 mm) (LA x0 x1 v0 v1 L1) (LG x3 v3 le) L (x2.map cr.D)
 ne:c<w0.heap.size/\w0.heap.size<=q
 gV:ic c w0 w
 ok:dT pos/\dT tk/\CY x2.length mm/\ts.size<=maxLen
 Kp:∀o,o∈x2->o.its.length<=100/\o.fO.length<=100
structure SO (w0:World) (c q:Nat) (A:Option Addr) (n cap:Nat) (x0:List cx) (x1:List cw) (x3:List R) (v0 v1 v3:Value) (L1:List Nat) (ts:cx) (pos tk:Int) (w:World) (v2:Value) (L:List Nat) (x2:List cr) (mm:Int) (b:Nat) (k t:Int) (vi vk:Value) (its fO:List R):Prop where
 sq:SQ w0 c q A n cap x0 x1 x3 v0 v1 v3 L1 ts pos tk w v2 L x2 mm [EV vi its,EV vk fO]
 ob:OB w b (.int .i64 k) (.int .i64 t) (.int .i64 0) vi vk
 low:∀f,f∈(LA x0 x1 v0 v1 L1)++EO v2 L x2 :: LG x3 v3 [EV vi its,EV vk fO]->¬iG f.v f.L b
 DH:w0.heap.size<=b/\b≠q
 OR:dT k/\dT t
section
variable {w0:World} {c q:Nat} {A:Option Addr} {n cap:Nat} {x0:List cx} {x1:List cw} {x3:List R} {v0 v1 v3:Value} {L1:List Nat} {ts:cx} {pos tk:Int} {w w':World} {v2:Value} {L:List Nat} {x2:List cr} {mm:Int} {le:List o7} {b:Nat} {k t:Int} {vi vk:Value} {its fO:List R}
theorem SQ.xB (h:SQ w0 c q A n cap x0 x1 x3 v0 v1 v3 L1 ts pos tk w v2 L x2 mm le) (k:ic c w w') (hc:kC w' c A n cap):SQ w0 c q A n cap x0 x1 x3 v0 v1 v3 L1 ts pos tk w' v2 L x2 mm le:=by
 exact WS
theorem SQ.on (h:SQ w0 c q A n cap x0 x1 x3 v0 v1 v3 L1 ts pos tk w v2 L x2 mm le) (k:U w w'):SQ w0 c q A n cap x0 x1 x3 v0 v1 v3 L1 ts pos tk w' v2 L x2 mm le:=h.xB (ic.dH k) (h.cur.de k)
theorem SQ.store (h:SQ w0 c q A n cap x0 x1 x3 v0 v1 v3 L1 ts pos tk w v2 L x2 mm le):cv w (fun b=>w0.heap.size<=b) q (O.mk x0 x1 x2 x3 ts pos [] [] [] false tk 400 mm):=by
 have E:=h.st.gv
 obtain⟨A0,c0,e0,r0⟩:=(E.own ⟨9,1,v0,[],x0.map fun x=>[Y.str x]⟩ aJ).row (S:=fun b=>w0.heap.size<=b) (E.low ⟨9,1,v0,[],x0.map fun x=>[Y.str x]⟩ aJ)
 obtain⟨A1,c1,e1,r1⟩:=(E.own ⟨109,3,v1,L1,x1.map cw.D⟩ aJ).row (S:=fun b=>w0.heap.size<=b) (E.low ⟨109,3,v1,L1,x1.map cw.D⟩ aJ)
 obtain⟨A2,c2,e2,r2⟩:=(E.own (EO v2 L x2) aJ).row (S:=fun b=>w0.heap.size<=b) (E.low (EO v2 L x2) aJ)
 obtain⟨A3,c3,e3,r3⟩:=(E.own (EV v3 x3) aJ).row (S:=fun b=>w0.heap.size<=b) (E.low (EV v3 x3) aJ)
 obtain⟨lP,l4,k0,k1,k2,k3,k4,k5,k6,k7,k8,k9,Uo,Up,Uq⟩:=h.st.box
 simp only[ar]at e0 e1 e2 e3
 have z:∀k,Row w (fun b=>w0.heap.size<=b) k none 0 []:=fun k=>⟨Nat.le_refl _,Nat.zero_le _,fun h=>absurd rfl h⟩
 refine⟨lP,_,O.mG r0 r1 r2 r3 h.ok.2.2.2 h.ok.1 (x6:=[]) (x7:=[]) (x8:=[]) (z 1) (z 1) (z 2) h.ok.2.1 aO h.ok.2.2.1.2.2,fun j hj=>?_⟩
 subst e0 e1 e2 e3
 match j,hj with
 | 0,_=>exact k0
 | 1,_=>exact k1
 | 2,_=>exact k2
 | 3,_=>exact k3
 | 4,_=>exact k4
 | 5,_=>exact k5
 | 6,_=>exact k6
 | 7,_=>exact k7
 | 8,_=>exact k8
 | 9,_=>exact k9
 | 10,_=>exact Uo
 | 11,_=>exact Up
 | 12,_=>exact Uq
 | m+13,h=>omega
theorem SQ.ad2 (h:SQ w0 c q A n cap x0 x1 x3 v0 v1 v3 L1 ts pos tk w v2 L x2 mm le) {x:Nat} (hx:v2.ownBlock=some x):w0.heap.size<=x:=h.st.gv.low (EO v2 L x2) aJ x (Or.inl hx)
theorem SQ.via (h:SQ w0 c q A n cap x0 x1 x3 v0 v1 v3 L1 ts pos tk w v2 L x2 mm le) {u2:Value} {L':List Nat} {y2:List cr} {u:Int} {le':List o7} (hk:EY w0.heap.size w' q v0 v1 u2 v3 (.string ts) (.int .i64 pos) ku ku ku (.bool false) (.int .i64 tk) (.int .i64 400) (.int .i64 u) (LA x0 x1 v0 v1 L1) (LG x3 v3 le') L' (y2.map cr.D))
  (hf:w'.os=w.os/\w'.tape=w.tape/\w'.output=w.output/\w.heap.size<=w'.heap.size) (old:∀k,k<w0.heap.size->w'.heap[k]?=w.heap[k]?) (hu:CY y2.length u) (hs:∀o,o∈y2->o.its.length<=100/\o.fO.length<=100):SQ w0 c q A n cap x0 x1 x3 v0 v1 v3 L1 ts pos tk w' u2 L' y2 u le' :=
 ⟨h.AM,h.AM.low h.cur h.gV.size hf.2.2.2 old,hk,h.ne,⟨hf.1.trans h.gV.os,hf.2.1.trans h.gV.tape,hf.2.2.1.trans h.gV.output,aw h.gV.size hf.2.2.2,fun k hk hc=>(old k hk).trans (h.gV.block k hk hc)⟩,⟨h.ok.1,h.ok.2.1,hu,h.ok.2.2.2⟩,hs⟩
theorem SQ.made (h:SQ w0 c q A n cap x0 x1 x3 v0 v1 v3 L1 ts pos tk w v2 L x2 mm le) {M:List Nat} {o:cr} {u:Int} {r:Value} {e:Ending} (hm:DI w0.heap.size w q v0 v1 v2 v3 (.string ts) (.int .i64 pos) ku ku ku (.bool false) (.int .i64 tk) (.int .i64 400) (.int .i64 mm) (.int .i64 u) (LA x0 x1 v0 v1 L1) (LG x3 v3 le) L M (x2.map cr.D) o.D r e w') (hu:CY (x2.length+1) u) (ho:o.its.length<=100/\o.fO.length<=100) :
  ∃y,e=.returned r/\SQ w0 c q A n cap x0 x1 x3 v0 v1 v3 L1 ts pos tk w' y (L++M) (x2++[o]) u le/\(w.heap.size<=w'.heap.size/\∀k,k<w.heap.size->k≠q->v2.ownBlock≠some k->w'.heap[k]?=w.heap[k]?)/\∀x,iG y (L++M) x->iG v2 L x\/x∈M\/w.heap.size<=x:=by
 obtain⟨y,he,hk,hf,hy,hs⟩:=hm
 have iP:=h.ne
 have zx:=h.gV.size
 refine⟨y,he,h.via (by rw[List.map_append];exact hk) hf (fun k hk=>hs k aF aF (fun e=>by have:=h.ad2 e;omega)) (by rw[List.length_append];exact hu) (fun o' Ur=>?_),⟨hf.2.2.2,hs⟩,fun x hx=>?_⟩
 ·
  rcases List.mem_append.1 Ur with q | q
  ·
   exact h.Kp o' q
  ·
   rw[List.mem_singleton.1 q];exact ho
 ·
  rcases hx with q | q
  ·
   exact (hy x q).elim (fun e=>Or.inl (Or.inl e)) (fun e=>Or.inr (Or.inr e))
  ·
   exact (List.mem_append.1 q).elim (fun e=>Or.inl (Or.inr e)) (fun e=>Or.inr (Or.inl e))
theorem SQ.drop (h:SQ w0 c q A n cap x0 x1 x3 v0 v1 v3 L1 ts pos tk w v2 L x2 mm le):SQ w0 c q A n cap x0 x1 x3 v0 v1 v3 L1 ts pos tk w v2 L x2 mm [] :=
 have hs:List.Sublist ((LA x0 x1 v0 v1 L1)++EO v2 L x2 :: LG x3 v3 []) ((LA x0 x1 v0 v1 L1)++EO v2 L x2 :: (LG x3 v3 le)):=(((List.nil_sublist le).cons_cons (EV v3 x3)).cons_cons (EO v2 L x2)).append_left (LA x0 x1 v0 v1 L1)
 ⟨h.AM,h.cur,⟨h.st.box,h.st.gv.sub hs,fun f hf=>h.st.low f (hs.subset hf)⟩,h.ne,h.gV,h.ok,h.Kp⟩
theorem SQ.Pk (h:SQ w0 c q A n cap x0 x1 x3 v0 v1 v3 L1 ts pos tk w v2 L x2 mm le) (hl:∀f,f∈(LA x0 x1 v0 v1 L1)++EO v2 L x2 :: (LG x3 v3 le)->¬iG f.v f.L b) (hb:w0.heap.size<=b/\b≠q) (o:Nat) (u:Value):SQ w0 c q A n cap x0 x1 x3 v0 v1 v3 L1 ts pos tk (w.setCell ⟨b,o,none⟩ u) v2 L x2 mm le:=by
 have hB:Below b w (w.setCell ⟨b,o,none⟩ u):=Below.setCell (Below.refl b w) (show b<=(⟨b,o,none⟩:Addr).block from Nat.le_refl b) u
 exact h.via ⟨h.st.box.td o u hb.2,h.st.gv.Lu hl o u,h.st.low⟩ ⟨hB.os,hB.tape,hB.output,hB.size⟩ (fun k hk=>dY o u aF) h.ok.2.2.1 h.Kp
theorem SO.gV (h:SO w0 c q A n cap x0 x1 x3 v0 v1 v3 L1 ts pos tk w v2 L x2 mm b k t vi vk its fO) (k':ic c w w') (hc:kC w' c A n cap):SO w0 c q A n cap x0 x1 x3 v0 v1 v3 L1 ts pos tk w' v2 L x2 mm b k t vi vk its fO :=
 ⟨h.sq.xB k' hc,h.ob.block k'.size (k'.block b h.ob.1 (by have:=h.DH;have:=h.sq.ne;omega)),h.low,h.DH,h.OR⟩
theorem SO.on (h:SO w0 c q A n cap x0 x1 x3 v0 v1 v3 L1 ts pos tk w v2 L x2 mm b k t vi vk its fO) (k':U w w'):SO w0 c q A n cap x0 x1 x3 v0 v1 v3 L1 ts pos tk w' v2 L x2 mm b k t vi vk its fO:=h.gV (ic.dH k') (h.sq.cur.de k')
theorem SO.yR (h:SO w0 c q A n cap x0 x1 x3 v0 v1 v3 L1 ts pos tk w v2 L x2 mm b k t vi vk its fO) {k2:Int} (hk:dT k2):SO w0 c q A n cap x0 x1 x3 v0 v1 v3 L1 ts pos tk (w.setCell ⟨b,0,none⟩ (.int .i64 k2)) v2 L x2 mm b k2 t vi vk its fO:=⟨h.sq.Pk h.low h.DH 0 _,h.ob.yR _,h.low,h.DH,⟨hk,h.OR.2⟩⟩
theorem SO.xY (h:SO w0 c q A n cap x0 x1 x3 v0 v1 v3 L1 ts pos tk w v2 L x2 mm b k t vi vk its fO) {t2:Int} (hk:dT t2):SO w0 c q A n cap x0 x1 x3 v0 v1 v3 L1 ts pos tk (w.setCell ⟨b,1,none⟩ (.int .i64 t2)) v2 L x2 mm b k t2 vi vk its fO:=⟨h.sq.Pk h.low h.DH 1 _,h.ob.xY _,h.low,h.DH,⟨h.OR.1,hk⟩⟩
theorem SO.start (h:SQ w0 c q A n cap x0 x1 x3 v0 v1 v3 L1 ts pos tk w v2 L x2 mm []) (hb:U w w') (ho:OB w' b (.int .i64 k) (.int .i64 0) (.int .i64 0) ku ku) (hn:w.heap.size<=b) (hk:dT k):SO w0 c q A n cap x0 x1 x3 v0 v1 v3 L1 ts pos tk w' v2 L x2 mm b k 0 ku ku [] []:=by
 have hq:=h.st.box.1
 have hs:=h.gV.size
 have Lv:∀w,dK w 34 6 ku [] (([]:List R).map R.D):=fun w=>dK.nil w _ _
 have hnb:∀x,¬iG ku [] x:=fun x hx=>dK.xZ hx
 have h1:gL w0.heap.size w' (((LA x0 x1 v0 v1 L1)++EO v2 L x2 :: LG x3 v3 [])++[EV ku []]):=h.st.gv.snoc hb (Lv w') hs (fun x hx=>absurd hx (hnb x))
 have h2:gL w0.heap.size w' ((((LA x0 x1 v0 v1 L1)++EO v2 L x2 :: LG x3 v3 [])++[EV ku []])++[EV ku []]):=h1.snoc (U.refl w') (Lv w') (aw hs hb.size) (fun x hx=>absurd hx (hnb x))
 have hm:∀f,f∈(LA x0 x1 v0 v1 L1)++EO v2 L x2 :: LG x3 v3 [EV ku [],EV ku []]->f∈(LA x0 x1 v0 v1 L1)++EO v2 L x2 :: LG x3 v3 []\/f=EV ku []:=fun f hf=>by
  simp only[LA,LG,List.cons_append,List.nil_append,List.mem_cons,List.not_mem_nil,or_false]at hf |-
  rcases hf with q | q | q | q | q | q
  ·
   exact Or.inl (Or.inl q)
  ·
   exact Or.inl (Or.inr (Or.inl q))
  ·
   exact Or.inl (Or.inr (Or.inr (Or.inl q)))
  ·
   exact Or.inl (Or.inr (Or.inr (Or.inr q)))
  ·
   exact Or.inr q
  ·
   exact Or.inr q
 refine⟨⟨h.AM,h.cur.de hb,⟨h.st.box.on hb,by simpa using h2,fun f hf=>?_⟩,h.ne,h.gV.trans (ic.dH hb),h.ok,h.Kp⟩,ho,fun f hf=>?_,⟨by omega,by omega⟩,⟨hk,by unfold dT;omega⟩⟩
 ·
  rcases hm f hf with q | q
  ·
   exact h.st.low f q
  ·
   rw[q];exact hnb _
 ·
  rcases hm f hf with q | q
  ·
   intro hx
   have:=(h.st.gv.own f q).lt b hx
   omega
  ·
   rw[q];exact hnb _
theorem SO.Gu (h:SO w0 c q A n cap x0 x1 x3 v0 v1 v3 L1 ts pos tk w v2 L x2 mm b k t vi vk its fO) {wm w9:World} {v9:Value} {tG:List R} (hm:U w wm) (hg:wm.grownBy w9 vi.ownBlock) (ho:dK w9 34 6 v9 [] (tG.map R.D)) (hn:∀x,v9.ownBlock=some x->vi.ownBlock=some x\/w.heap.size<=x) :
  SO w0 c q A n cap x0 x1 x3 v0 v1 v3 L1 ts pos tk (w9.setCell ⟨b,3,none⟩ v9) v2 L x2 mm b k t v9 vk tG fO:=by
 have hs:=h.sq.gV.size
 have jZ:=hm.size
 have xX:=hg.size
 have hE:gL w0.heap.size w (((LA x0 x1 v0 v1 L1)++[EO v2 L x2,EV v3 x3])++EV vi its :: [EV vk fO]):=by simpa using h.sq.st.gv
 have jP:∀f,f∈((LA x0 x1 v0 v1 L1)++[EO v2 L x2,EV v3 x3])++[EV vk fO]->∀x,iG f.v f.L x->x<w.heap.size:=fun f hf x hx=>(h.sq.st.gv.own f bX).lt x hx
 have hE9:gL w0.heap.size w9 (((LA x0 x1 v0 v1 L1)++[EO v2 L x2,EV v3 x3])++EV v9 tG :: [EV vk fO]):=hE.Bl hm hg ho fun x hx=>by
  rcases hx with q | q
  ·
   exact Pm
  ·
   cases q
 have gf:∀f,f∈(LA x0 x1 v0 v1 L1)++EO v2 L x2 :: LG x3 v3 [EV v9 tG,EV vk fO]->f∈(LA x0 x1 v0 v1 L1)++EO v2 L x2 :: LG x3 v3 [EV vi its,EV vk fO]\/f=EV v9 tG:=fun f hf=>by simp at hf |-;grind
 have Pn:∀x,vi.ownBlock=some x->w0.heap.size<=x:=fun x hx=>h.sq.st.gv.low (EV vi its) aJ x (Or.inl hx)
 have WT:∀d,(∀f,f∈(LA x0 x1 v0 v1 L1)++EO v2 L x2 :: LG x3 v3 [EV vi its,EV vk fO]->¬iG f.v f.L d)->d<w.heap.size->(∀f,f∈(LA x0 x1 v0 v1 L1)++EO v2 L x2 :: LG x3 v3 [EV v9 tG,EV vk fO]->¬iG f.v f.L d):=fun d hd hl f hf=>by
  rcases gf f hf with q | rfl
  ·
   exact hd f q
  ·
   exact WU
 have same:∀d,d<w.heap.size->vi.ownBlock≠some d->w9.heap[d]?=w.heap[d]?:=fun d hd iP=>(hg.block d aF (fun q=>iP q.symm)).trans (Below.block hm d hd)
 have WV:=h.sq.st.box.1
 have zy:=h.ob.1
 have ga:vi.ownBlock≠some q:=fun e=>h.sq.st.low (EV vi its) aJ (Or.inl e)
 have TZ:vi.ownBlock≠some b:=fun e=>h.low (EV vi its) aJ (Or.inl e)
 have S9:SQ w0 c q A n cap x0 x1 x3 v0 v1 v3 L1 ts pos tk w9 v2 L x2 mm [EV v9 tG,EV vk fO]:=h.sq.via ⟨h.sq.st.box.block aF (same q WV ga),by simpa using hE9,WT q h.sq.st.low WV⟩ ⟨hg.os.trans hm.os,hg.tape.trans hm.tape,hg.output.trans hm.output,by omega⟩ (fun d hd=>same d aF (fun e=>by have:=Pn d e;omega)) h.sq.ok.2.2.1 h.sq.Kp
 have l9:=WT b h.low zy
 exact⟨S9.Pk l9 h.DH 3 v9,(h.ob.block aF (same b zy TZ)).rT v9,l9,h.DH,h.OR⟩
theorem SO.ad4 (h:SO w0 c q A n cap x0 x1 x3 v0 v1 v3 L1 ts pos tk w v2 L x2 mm b k t vi vk its fO) {wm w9:World} {v9:Value} {IQ:List R} (hm:U w wm) (hg:wm.grownBy w9 vk.ownBlock) (ho:dK w9 34 6 v9 [] (IQ.map R.D)) (hn:∀x,v9.ownBlock=some x->vk.ownBlock=some x\/w.heap.size<=x) :
  SO w0 c q A n cap x0 x1 x3 v0 v1 v3 L1 ts pos tk (w9.setCell ⟨b,4,none⟩ v9) v2 L x2 mm b k t vi v9 its IQ:=by
 have hs:=h.sq.gV.size
 have jZ:=hm.size
 have xX:=hg.size
 have hE:gL w0.heap.size w (((LA x0 x1 v0 v1 L1)++[EO v2 L x2,EV v3 x3,EV vi its])++EV vk fO :: []):=by simpa using h.sq.st.gv
 have jP:∀f,f∈((LA x0 x1 v0 v1 L1)++[EO v2 L x2,EV v3 x3,EV vi its])++[]->∀x,iG f.v f.L x->x<w.heap.size:=fun f hf x hx=>(h.sq.st.gv.own f bX).lt x hx
 have hE9:gL w0.heap.size w9 (((LA x0 x1 v0 v1 L1)++[EO v2 L x2,EV v3 x3,EV vi its])++EV v9 IQ :: []):=hE.Bl hm hg ho fun x hx=>by
  rcases hx with q | q
  ·
   exact Pm
  ·
   cases q
 have gf:∀f,f∈(LA x0 x1 v0 v1 L1)++EO v2 L x2 :: LG x3 v3 [EV vi its,EV v9 IQ]->f∈(LA x0 x1 v0 v1 L1)++EO v2 L x2 :: LG x3 v3 [EV vi its,EV vk fO]\/f=EV v9 IQ:=fun f hf=>by simp at hf |-;grind
 have Pn:∀x,vk.ownBlock=some x->w0.heap.size<=x:=fun x hx=>h.sq.st.gv.low (EV vk fO) aJ x (Or.inl hx)
 have WT:∀d,(∀f,f∈(LA x0 x1 v0 v1 L1)++EO v2 L x2 :: LG x3 v3 [EV vi its,EV vk fO]->¬iG f.v f.L d)->d<w.heap.size->(∀f,f∈(LA x0 x1 v0 v1 L1)++EO v2 L x2 :: LG x3 v3 [EV vi its,EV v9 IQ]->¬iG f.v f.L d):=fun d hd hl f hf=>by
  rcases gf f hf with q | rfl
  ·
   exact hd f q
  ·
   rintro (q | q)
   ·
    rcases hn d q with q | q
    ·
     exact hd (EV vk fO) aJ (Or.inl q)
    ·
     omega
   ·
    cases q
 have same:∀d,d<w.heap.size->vk.ownBlock≠some d->w9.heap[d]?=w.heap[d]?:=fun d hd iP=>(hg.block d aF (fun q=>iP q.symm)).trans (Below.block hm d hd)
 have WV:=h.sq.st.box.1
 have zy:=h.ob.1
 have ga:vk.ownBlock≠some q:=fun e=>h.sq.st.low (EV vk fO) aJ (Or.inl e)
 have TZ:vk.ownBlock≠some b:=fun e=>h.low (EV vk fO) aJ (Or.inl e)
 have S9:SQ w0 c q A n cap x0 x1 x3 v0 v1 v3 L1 ts pos tk w9 v2 L x2 mm [EV vi its,EV v9 IQ]:=h.sq.via ⟨h.sq.st.box.block aF (same q WV ga),by simpa using hE9,WT q h.sq.st.low WV⟩ ⟨hg.os.trans hm.os,hg.tape.trans hm.tape,hg.output.trans hm.output,by omega⟩ (fun d hd=>same d aF (fun e=>by have:=Pn d e;omega)) h.sq.ok.2.2.1 h.sq.Kp
 have l9:=WT b h.low zy
 exact⟨S9.Pk l9 h.DH 4 v9,(h.ob.block aF (same b zy TZ)).CZ v9,l9,h.DH,h.OR⟩
theorem sE (w:World) (r:Option Nat):w.grownBy w r:=⟨rfl,rfl,rfl,Nat.le_refl _,fun _ _ _=>rfl⟩
theorem SO.take (h:SO w0 c q A n cap x0 x1 x3 v0 v1 v3 L1 ts pos tk w v2 L x2 mm b k t vi vk its fO):∃M:List Nat,(∀s,dT s->Y.dh w M (cr.mk k t s its fO).D [.int .i64 k,.int .i64 t,.int .i64 s,vi,vk])/\M.Nodup/\∀x,x∈M->w0.heap.size<=x/\x≠q/\∀f,f∈(LA x0 x1 v0 v1 L1)++EO v2 L x2 :: LG x3 v3 []->¬iG f.v f.L x:=by
 have E:=h.sq.st.gv
 have H3:dK w 34 6 vi [] (its.map R.D):=E.own (EV vi its) aJ
 have H4:dK w 34 6 vk [] (fO.map R.D):=E.own (EV vk fO) aJ
 obtain⟨A3,c3,L3,e3,r3,n3,b3⟩:=H3.ownRow
 obtain⟨A4,c4,L4,e4,r4,n4,b4⟩:=H4.ownRow
 rw[ar]at e3 e4
 have E2:gL w0.heap.size w (((LA x0 x1 v0 v1 L1)++[EO v2 L x2,EV v3 x3])++[EV vi its,EV vk fO]):=by simpa using E
 have hp:=List.pairwise_append.1 E2.sep
 have hp2:=List.pairwise_cons.1 hp.2.1
 refine⟨L3++L4,fun s hs=>?_,ke n3 n4 (fun x h3 h4=>hp2.1 (EV vk fO) aJ x (b3 x h3) (b4 x h4)),fun x hx=>?_⟩
 ·
  subst e3 e4
  exact cr.kL h.OR.1 h.OR.2 hs r3 r4
 ·
  have hf:∀f,f∈(LA x0 x1 v0 v1 L1)++EO v2 L x2 :: LG x3 v3 []->f∈(LA x0 x1 v0 v1 L1)++[EO v2 L x2,EV v3 x3]:=fun f hf=>by simpa using hf
  rcases List.mem_append.1 hx with q | q
  ·
   exact⟨E.low (EV vi its) aJ x (b3 x q),fun e=>h.sq.st.low (EV vi its) aJ (e▸b3 x q),fun f hm hb=>hp.2.2 f (hf f hm) (EV vi its) aJ x hb (b3 x q)⟩
  ·
   exact⟨E.low (EV vk fO) aJ x (b4 x q),fun e=>h.sq.st.low (EV vk fO) aJ (e▸b4 x q),fun f hm hb=>hp.2.2 f (hf f hm) (EV vk fO) aJ x hb (b4 x q)⟩
theorem SO.other (h:SO w0 c q A n cap x0 x1 x3 v0 v1 v3 L1 ts pos tk w v2 L x2 mm b k t vi vk its fO) {y:Value} {L':List Nat} {y2:List cr} {u:Int} (hs:SQ w0 c q A n cap x0 x1 x3 v0 v1 v3 L1 ts pos tk w' y L' y2 u [EV vi its,EV vk fO]) (hb:w'.heap[b]?=w.heap[b]?) (hz:w.heap.size<=w'.heap.size) (hx:∀x,iG y L' x->iG v2 L x\/w.heap.size<=x):SO w0 c q A n cap x0 x1 x3 v0 v1 v3 L1 ts pos tk w' y L' y2 u b k t vi vk its fO:=by
 refine⟨hs,h.ob.block hz hb,fun f hf hc=>?_,h.DH,h.OR⟩
 have gf:f∈(LA x0 x1 v0 v1 L1)++EO v2 L x2 :: LG x3 v3 [EV vi its,EV vk fO]\/f=EO y L' y2:=bX
 rcases gf with q | rfl
 ·
  exact h.low f q hc
 ·
  rcases hx b hc with q | q
  ·
   exact h.low (EO v2 L x2) aJ q
  ·
   have:=h.ob.1;omega
end
theorem Lw (kk mm:Int) (hk:kk<2\/7<kk) (N:Nat) (w:World) (q:Nat) (v0 v1 v2 v3 v4 v5 v6 v7 v8 v9 v10 v11:Value) (la lb:List o7) (L M:List Nat) (ds:List (List Y)) (d:List Y) (o1 o2 o3 o4:Value) (h:EY N w q v0 v1 v2 v3 v4 v5 v6 v7 v8 v9 v10 v11 (.int .i64 mm) la lb L ds) (hd:Y.dh w M d [.int .i64 kk,o1,o2,o3,o4]) (hn:M.Nodup) (hM:∀b,b∈M->N<=b/\b≠q/\∀f,f∈la++⟨81,5,v2,L,ds⟩ :: lb->¬iG f.v f.L b) (hl:ds.length<=2097152) (T0:N<=w.heap.size) :
  Calls prog 76 #[.pointer (some ⟨q,0,none⟩),.agg #[.int .i64 kk,o1,o2,o3,o4]] w (DI N w q v0 v1 v2 v3 v4 v5 v6 v7 v8 v9 v10 v11 (.int .i64 mm) (.int .i64 mm) la lb L M ds d (.int .i64 (ds.length:Nat))):=by
 have WW:=I h
 have HD0:=I hd
 have HN:=I hn
 have HM:=I hM
 have Us:=h.low
 obtain⟨io,hio,zo0,zo1,zo2⟩:=info_parts AX
 clear h hd hn hM
 have vx:=HD0.out.mH
 obtain⟨lP,l4,gM,gN,gH,gO,gP,gQ,gR,gS,gT,gU,fu,fv,fw⟩:=WW.out.box
 have hdk:decide (2<=kk)=false\/(decide (2<=kk)=true/\decide (kk<=7)=false):=by
  rcases hk with h | h
  ·
   exact Or.inl (ax aF)
  ·
   exact Or.inr ⟨ay aF,ax aF⟩
 clear hk
 rcases hdk with dk1 | ⟨dk1,dk2⟩
 all_goals
  go_enter func76,ntmps76
  go_upto_region 4 with (fail)
  refine cZ fun wr jO=>?_
  clear lP l4 gM gN gH gO gP gQ gR gS gT gU fu fv fw vx
  obtain⟨w1,gy⟩:∃x,w=x:=⟨_,rfl⟩
  replace jO:w1.alloc (.cells #[.int .i64 kk,o1,o2,o3,o4] 81)=wr:=by rw[<-gy];exact jO
  have T1:Below q w w1:=by rw[<-gy];exact Below.refl q w
  have jZ:w1.heap.size=w.heap.size:=by rw[<-gy]
  have ya:∀k,k≠q->w1.heap[k]?=w.heap[k]?:=fun k hk=>by rw[<-gy]
  have HS:=I (show w1.heap.size=w.heap.size/\w1.os=w.os/\w1.tape=w.tape/\w1.output=w.output/\∀k,k≠q->w1.heap[k]?=w.heap[k]? from⟨jZ,T1.os,T1.tape,T1.output,ya⟩)
  have HH:=I (show EY N w1 q v0 v1 v2 v3 v4 v5 v6 v7 v8 v9 v10 v11 (.int .i64 mm) la lb L ds from by rw[<-gy];exact WW.out)
  have HD:=I (show Y.dh w1 M d [.int .i64 kk,o1,o2,o3,o4]from Y.dh.keep aF _ _ _ (fun x hx=>⟨fun o=>World.cell?_of_block (ya x (HM.out x hx).2.1),fun o=>World.frozen?_of_block (ya x (HM.out x hx).2.1)⟩) HD0.out)
  replace T0:N<=w1.heap.size:=by omega
  clear WW HD0 T1 ya gy
  have HE:=I (show dK w1 81 5 v2 L ds from HH.out.gv.own ⟨81,5,v2,L,ds⟩ aJ)
  have jg:U w1 wr:=by rw[<-jO];exact bl
  have OA:=I (show OB wr w.heap.size (.int .i64 kk) o1 o2 o3 o4 from by rw[<-jO];have h:=OB.new w1 81 (v0:=.int .i64 kk) (v1:=o1) (v2:=o2) (v3:=o3) (v4:=o4);rw[jZ]at h;exact h)
  clear jO jZ
  refine nP (m:=10) (p:=7) (fun j=>match j with  | _=>[]) (fun j vf wq=>match j with | 0=>((vf 0)=.pointer (some ⟨q,0,none⟩)) | 1=>((vf 1)=.pointer (some ⟨q,0,none⟩)) | 2=>((vf 2)=.pointer (some ⟨q,0,none⟩)) | 3=>((vf 3)=.pointer (some ⟨q,2,none⟩)) | 4=>((vf 4)=v2) | 5=>((vf 5)=.agg #[.int .i64 kk,o1,o2,o3,o4]) | 6=>(∃g:Nat,(vf 6)=.slice (some ⟨g,0,none⟩) 1 1/\wr.heap.size<=g/\wq.heap[g]?=some (.cells #[.int .i64 kk,o1,o2,o3,o4] 81)) | 7=>(dK wq 81 5 (vf 7) (L++M) (ds++[d])/\∀b,Value.ownBlock (vf 7)=some b->v2.ownBlock=some b\/wr.heap.size<=b) | 8=>((vf 8)=.pointer (some ⟨q,0,none⟩)) | 9=>((vf 9)=.pointer (some ⟨q,2,none⟩)) | _=>True) (fun wa wb=>U wa wb) (fun wa wb=>Po wr.heap.size wa wb) (fun wq=>EY N wq q v0 v1 v2 v3 v4 v5 v6 v7 v8 v9 v10 v11 (.int .i64 mm) la lb L ds/\OB wq w.heap.size (.int .i64 kk) o1 o2 o3 o4/\Y.dh wq M d [.int .i64 kk,o1,o2,o3,o4]/\U wr wq) (fun wq=>∃wm:World,U wr wm/\wm.grownBy wq v2.ownBlock) [(0,some 25),(1,some 26),(2,some 27),(3,some 28),(4,some 29),(5,some 30),(6,some 31),(7,some 32),(8,some 33),(9,some 34),(10,none)] rfl aG aG aG aI ?hG ?hR ?hR2 ?hG0 ?hG1 rfl rfl ?hstep ?hp ?hlast
  case hG=>exact⟨HH.out.on (jg.trans bl),OA.out.on bl,HD.out.de (jg.trans bl),bl⟩
  case hG0=>exact fun wa wb hk hg=>⟨hg.1.on hk,hg.2.1.on hk,hg.2.2.1.de hk,hg.2.2.2.trans hk⟩
  case hG1=>exact fun wa wb hk hg=>by obtain⟨wm,h3,h4⟩:=hg;exact⟨wm,h3,yS h4 hk⟩
  case hR =>
   exact WX
  case hR2 =>
   exact WY
  case hstep =>
   simp only[gZ,Act.put,aa,ab,ae,af,ag,aj]
   refine (dO (i:=0) (i2:=1) (o:=_) rfl ?s0 (dO (i:=1) (i2:=2) (o:=_) rfl ?s1 (dO (i:=2) (i2:=3) (o:=_) rfl ?s2 (dO (i:=3) (i2:=4) (o:=_) rfl ?s3 (dO (i:=4) (i2:=5) (o:=_) rfl ?s4 (dO (i:=5) (i2:=6) (o:=_) rfl ?s5 (dO (i:=6) (i2:=7) (o:=_) rfl ?s6 (tH (p:=7) (p2:=8) (dO (i:=8) (i2:=9) (o:=_) rfl ?s8 (dO (i:=9) (i2:=10) (o:=_) rfl ?s9 (xC aI)))))))))))
   case s0 =>
    exact tI
   case s1 =>
    exact tI
   case s2 =>
    exact WZ
   case s3 =>
    exact W4
   case s4 =>
    exact W5
   case s5 =>
    exact W6
   case s6 =>
    intro u wa hG hf K hK
    have g0:=rU hG aG
    have e5:(u 5)=.agg #[.int .i64 kk,o1,o2,o3,o4]:=fU hf 5 aG
    clear hf
    clear hG
    simp only[Act.put,aa,ab,ae,af,ag,aj]at hK |-
    rw[e5]at hK |-
    have tu:=U.size g0.2.2.2
    have hoc:=g0.2.2.1.mH
    have jl:U wa (wa.alloc (.cells #[.int .i64 kk,o1,o2,o3,o4] 81)):=bl
    go_simp
    exact hK.out _ _ jl ⟨wa.heap.size,rfl,tu,heap_alloc_new _ _⟩
   case s8 =>
    exact W7
   case s9 =>
    exact W9
  case hp =>
   simp only[gZ,Act.put,aa,ab,ae,af,ag,aj]
   intro u wa hG hf K hK
   have e4:(u 4)=v2:=fU hf 4 aG
   have e6:∃g:Nat,(u 6)=.slice (some ⟨g,0,none⟩) 1 1/\wr.heap.size<=g/\wa.heap[g]?=some (.cells #[.int .i64 kk,o1,o2,o3,o4] 81):=fU hf 6 aG
   clear hf
   rw[e4]at hK |-
   obtain⟨g,e6,Xa,hg2⟩:=e6
   rw[e6]at hK |-
   have hold:dK wa 81 5 v2 L ds:=hG.1.gv.own ⟨81,5,v2,L,ds⟩ aJ
   have tu:=U.size hG.2.2.2
   have sS:=jg.size
   have hlv:=HE.out.lt
   have mi:Src wa 5 (some ⟨g,0,none⟩) 1 M [d] [.int .i64 kk,o1,o2,o3,o4]:=⟨rfl,(fun h=>(by cases h)),⟨M,[],[.int .i64 kk,o1,o2,o3,o4],[],by simp,by simp,rfl,hG.2.2.1,rfl,rfl⟩,HN.out,fun ad hA j u hu=>by obtain rfl:=Option.some.inj hA;rw[addr_add];unfold World.cell?;simp only[hg2];simpa using hu⟩
   refine jq (.tmp 29) (.tmp 31) 26 rfl 81 io (.agg #[.int .i64 0,.int .i64 0,.int .i64 0,.slice none 0 0,.slice none 0 0]) 5 72 underlying26 hio zo0 zo1 zo2 aI aI hold mi 1 rfl rfl (fun b hb hm=>(HM.out b hm).2.2 ⟨81,5,v2,L,ds⟩ aJ hb) aF bE (fun v9 w9 mq mr lp=>?_)
   (try simp only[Act.put,aa,ab,ae,af,ag,aj])
   exact hK.out _ _ ⟨mr.size,fun k hk hl=>mr.block k hl (fun e=>by have:=hlv k (Or.inl e.symm);omega)⟩ ⟨wa,hG.2.2.2,mr⟩ ⟨mq,fun b hb=>(lp b hb).imp id (fun e=>by omega)⟩
  case hlast =>
   simp only[gZ,Act.put,aa,ab,ae,af,ag,aj]
   intro u wa hG hf K hK
   have e7:dK wa 81 5 (u 7) (L++M) (ds++[d])/\∀b,Value.ownBlock (u 7)=some b->v2.ownBlock=some b\/wr.heap.size<=b:=hf 7 aI
   have e9:u 9=.pointer (some ⟨q,2,none⟩):=hf 9 aI
   clear hf
   obtain⟨hO,yT⟩:=e7
   obtain⟨A9,c9,e7⟩:∃A9 c9,u 7=.slice A9 (ds.length+1) c9:=by obtain⟨A9,c9,L9,tJ,-⟩:=hO.ownRow;exact⟨A9,c9,by rw[tJ,List.length_append];rfl⟩
   rw[e7]at hO yT hK |-
   rw[e9]at hK |-
   obtain⟨wm,h2,h3⟩:=hG
   have sS:=jg.size
   have xX:=h2.size
   have Ua:=h3.size
   have Bm:∀b,v2.ownBlock=some b->N<=b:=fun b hb=>HH.out.gv.low ⟨81,5,v2,L,ds⟩ aJ b (Or.inl hb)
   have same:∀k,k<w1.heap.size->v2.ownBlock≠some k->wa.heap[k]?=w1.heap[k]?:=fun k hk iP=>((h3.block k aF (fun e=>iP e.symm)).trans (Below.block h2 k aF)).trans (Below.block jg k hk)
   have BX:=HH.out.box.block (w':=wa) aF (same q (by have:=HH.out.box.1;omega) (fun e=>Us ⟨81,5,v2,L,ds⟩ aJ (Or.inl e)))
   have Ut:gL N wa (la++⟨81,5,.slice A9 (ds.length+1) c9,L++M,ds++[d]⟩ :: lb):=gL.Bl (HH.out.gv.de jg) h2 h3 (e':=⟨81,5,.slice A9 (ds.length+1) c9,L++M,ds++[d]⟩) hO (fun b hb=>?gx)
   case gx =>
    exact ad6
   have Uu:=HH.out.box.1
   have Pp:=Gv (y:=.slice A9 (ds.length+1) c9) (M:=M) (d:=d) Us (fun e=>(yT q e).elim id (fun h=>by omega)) (fun e=>(HM.out q e).2.1 rfl)
   have MK:=I (show EY N (wa.setCell ⟨q,2,none⟩ (.slice A9 (ds.length+1) c9)) q v0 v1 (.slice A9 (ds.length+1) c9) v3 v4 v5 v6 v7 v8 v9 v10 v11 (.int .i64 mm) la lb (L++M) (ds++[d])from⟨BX.rV _,Ut.Lu Pp 2 _,Pp⟩)
   exact Xb
def ajF (w0:World) (c q:Nat) (A:Option Addr) (n cap:Nat) (x0:List cx) (x1:List cw) (x3:List R) (v0 v1 v3:Value) (L1:List Nat) (ts:cx) (pos tk:Int) (w:World) (v2:Value) (L:List Nat) (x2:List cr) (le:List o7) (M:List Nat) (e:Ending) (w':World):Prop :=
 ∃(y:Value) (o:cr) (u:Int),e=.returned (.int .i64 (x2.length:Nat))/\SQ w0 c q A n cap x0 x1 x3 v0 v1 v3 L1 ts pos tk w' y (L++M) (x2++[o]) u le/\(w.heap.size<=w'.heap.size/\∀k,k<w.heap.size->k≠q->v2.ownBlock≠some k->w'.heap[k]?=w.heap[k]?)/\∀x,iG y (L++M) x->iG v2 L x\/x∈M\/w.heap.size<=x
theorem aan (x:Int):dT (IntKind.i64.wrap x):=by
 unfold dT
 rw[IntKind.wrap_i64]
 omega
theorem Pq {w0:World} {c q:Nat} {A:Option Addr} {n cap:Nat} {x0:List cx} {x1:List cw} {x3:List R} {v0 v1 v3:Value} {L1:List Nat} {ts:cx} {pos tk:Int} {w:World} {v2:Value} {L:List Nat} {x2:List cr} {mm:Int} {le:List o7} (h:SQ w0 c q A n cap x0 x1 x3 v0 v1 v3 L1 ts pos tk w v2 L x2 mm le) (kk t:Int) (vi vk:Value) (its fO:List R) (M:List Nat)
  (hd:∀s,dT s->Y.dh w M (cr.mk kk t s its fO).D [.int .i64 kk,.int .i64 t,.int .i64 s,vi,vk]) (hn:M.Nodup) (hM:∀x,x∈M->w0.heap.size<=x/\x≠q/\∀f,f∈(LA x0 x1 v0 v1 L1)++EO v2 L x2 :: (LG x3 v3 le)->¬iG f.v f.L x) (hl:x2.length<=2097152) (ho:its.length<=100/\fO.length<=100) :
  Calls prog 76 #[.pointer (some ⟨q,0,none⟩),.agg #[.int .i64 kk,.int .i64 t,.int .i64 0,vi,vk]] w (ajF w0 c q A n cap x0 x1 x3 v0 v1 v3 L1 ts pos tk w v2 L x2 le M):=by
 have i0:dT 0:=aO
 by_cases hk:2<=kk/\kk<=7
 ·
  refine (IU kk mm (IntKind.i64.wrap (mm+1)) rfl hk.1 hk.2 w0.heap.size w q v0 v1 v2 v3 _ _ _ _ _ _ _ _ (LA x0 x1 v0 v1 L1) (LG x3 v3 le) L M (x2.map cr.D) (cr.mk kk t (IntKind.i64.wrap (mm+1)) its fO).D _ (.int .i64 0) vi vk h.st (hd _ (aan _)) rfl hn hM (by rw[ar];exact hl) h.gV.size).mono ?_
  intro e w' hp
  obtain⟨y,he,hs,hf,hx⟩:=h.made hp (h.ok.2.2.1.WR hl) ho
  exact⟨y,_,_,by rw[ar]at he;exact he,hs,hf,hx⟩
 ·
  refine (Lw kk mm aF w0.heap.size w q v0 v1 v2 v3 _ _ _ _ _ _ _ _ (LA x0 x1 v0 v1 L1) (LG x3 v3 le) L M (x2.map cr.D) (cr.mk kk t 0 its fO).D _ (.int .i64 0) vi vk h.st (hd _ i0) hn hM (by rw[ar];exact hl) h.gV.size).mono ?_
  intro e w' hp
  obtain⟨y,he,hs,hf,hx⟩:=h.made hp h.ok.2.2.1.more ho
  exact⟨y,_,_,by rw[ar]at he;exact he,hs,hf,hx⟩
end Go.Proofs.YtjngkknbpfgdcaaGreatDoor
