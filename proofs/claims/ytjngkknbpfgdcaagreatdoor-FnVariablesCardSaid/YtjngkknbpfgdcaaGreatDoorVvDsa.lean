import Derived.Test.YtjngkknbpfgdcaaGreatDoorVvDs7
set_option linter.unusedVariables false
set_option linter.unusedSimpArgs false
set_option maxRecDepth 100000
set_option maxHeartbeats 8000000
namespace Go.Proofs.YtjngkknbpfgdcaaGreatDoor
open Go.RowKit Go.Proofs.Tryz
def akk (w:World) (e:Ending) (w':World):Prop:=∃(t:O) (vs:List Value) (v:cC),e=.returned (.tuple #[.agg vs.toArray,v.val])/\Y.cA w' (fun b=>w.heap.size<=b) t.D vs/\t.objects.length<=25/\(∀o,o∈t.objects->o.its.length<=100/\o.fO.length<=100)/\(0<=t.made/\t.made<=25/\Y.Gf t.D<=100000)/\v.Ok/\U w w'
structure DV (w:World) (c lw b5 r3:Nat) (u0 u1 u2 u3 u4 u5 u6 u7 u8 u9 rX rY qu:Value) (ds:List Y) (wq:World):Prop where
 val:Y.cA wq (fun b=>lw<=b) ds [u0,u1,u2,u3,u4,u5,u6,u7,u8,u9,rX,rY,qu]
 box:SB wq b5 u0 u1 u2 u3 u4 u5 u6 u7 u8 u9 rX rY qu
 z3:Z6 wq r3
 de:U w wq
 ne:w.heap.size<=c/\c<lw/\b5≠c/\r3≠c/\lw<=wq.heap.size
section
variable {w wq wz:World} {c lw b5 r2 r3:Nat} {u0 u1 u2 u3 u4 u5 u6 u7 u8 u9 rX rY qu:Value} {ds:List Y}
theorem DV.gV (h:DV w c lw b5 r3 u0 u1 u2 u3 u4 u5 u6 u7 u8 u9 rX rY qu ds wq) (k:ic c wq wz):DV w c lw b5 r3 u0 u1 u2 u3 u4 u5 u6 u7 u8 u9 rX rY qu ds wz :=
 ⟨Y.cA.sC (k.sC (S:=fun b=>lw<=b) (by have:=h.ne;show ¬lw<=c;omega)) (fun _ hx=>hx) h.val,h.box.block k.size (k.block b5 h.box.1 h.ne.2.2.1),h.z3.gV k h.ne.2.2.2.1,ic.de h.de k h.ne.1,⟨h.ne.1,h.ne.2.1,h.ne.2.2.1,h.ne.2.2.2.1,aw h.ne.2.2.2.2 k.size⟩⟩
theorem DV.but (h:DV w c lw b5 r3 u0 u1 u2 u3 u4 u5 u6 u7 u8 u9 rX rY qu ds wq) (k:vj r2 wq wz) (h1:w.heap.size<=r2) (h2:r2<lw) (h3:r2≠b5) (h4:r2≠r3):DV w c lw b5 r3 u0 u1 u2 u3 u4 u5 u6 u7 u8 u9 rX rY qu ds wz:=by
 have hz:=k.size
 refine⟨Y.cA.sC (S0:=fun b=>lw<=b) ⟨k.os,k.tape,k.output,by omega,fun d hd _=>k.block d aF⟩ (fun _ hx=>hx) h.val,h.box.block aF (k.block b5 (Ne.symm h3)),h.z3.block aF (k.block r3 (Ne.symm h4)),⟨k.os.trans h.de.os,k.tape.trans h.de.tape,k.output.trans h.de.output,by have:=h.de.size;omega,fun d hd=>(k.block d aF).trans (Below.block h.de d hd)⟩,by have:=h.ne;omega⟩
theorem DV.store (h:DV w c lw b5 r3 u0 u1 u2 u3 u4 u5 u6 u7 u8 u9 rX rY qu ds wq) {t:O} (ht:t.D=ds):cv wq (fun b=>lw<=b) b5 t:=by
 obtain⟨lP,l4,k0,k1,k2,k3,k4,k5,k6,k7,k8,k9,Uo,Up,Uq⟩:=h.box
 refine⟨lP,_,by rw[ht];exact h.val,fun j hj=>?_⟩
 match j,hj with
 | 0,_=>exact k0
 | 1,_=>exact k1
 | 2,_=>exact k2
 | 3,_=>exact k3
 | 4,_=>exact k4
 | 5,_=>exact k5
 | 6,_=>exact k6
 | 7,_=>exact k7
 | 8,_=>exact k8
 | 9,_=>exact k9
 | 10,_=>exact Uo
 | 11,_=>exact Up
 | 12,_=>exact Uq
 | m+13,h=>omega
end
theorem yg {w:World} {b:Nat} (h:Z6 w b):w.there b 0 6:=by
 obtain⟨c0,c1,c2,c3,c4,c5,f,l⟩:=h
 intro j hj
 rcases (show j=0\/j=1\/j=2\/j=3\/j=4\/j=5 by omega)with rfl | rfl | rfl | rfl | rfl | rfl
 ·
  exact⟨by rw[show 0+0=0 from rfl,c0];rfl,f _⟩
 ·
  exact⟨by rw[show 0+1=1 from rfl,c1];rfl,f _⟩
 ·
  exact⟨by rw[show 0+2=2 from rfl,c2];rfl,f _⟩
 ·
  exact⟨by rw[show 0+3=3 from rfl,c3];rfl,f _⟩
 ·
  exact⟨by rw[show 0+4=4 from rfl,c4];rfl,f _⟩
 ·
  exact⟨by rw[show 0+5=5 from rfl,c5];rfl,f _⟩
theorem Fc {w:World} {b:Nat} (h:Z6 w b) (x0 x1 x2 x3 x4 x5:Value):(w.setCells b 0 [x0,x1,x2,x3,x4,x5]).cell? ⟨b,0,none⟩=some x0/\(w.setCells b 0 [x0,x1,x2,x3,x4,x5]).cell? ⟨b,1,none⟩=some x1/\(w.setCells b 0 [x0,x1,x2,x3,x4,x5]).cell? ⟨b,2,none⟩=some x2/\(w.setCells b 0 [x0,x1,x2,x3,x4,x5]).cell? ⟨b,3,none⟩=some x3/\(w.setCells b 0 [x0,x1,x2,x3,x4,x5]).cell? ⟨b,4,none⟩=some x4/\(w.setCells b 0 [x0,x1,x2,x3,x4,x5]).cell? ⟨b,5,none⟩=some x5:=h.put x0 x1 x2 x3 x4 x5
theorem yh {w:World} {S:Nat->Prop} {t:O} {vs:List Value} (h:Y.cA w S t.D vs):∃(A0:Option Addr) (n0 c0:Nat) (A1:Option Addr) (n1 c1:Nat) (A2:Option Addr) (n2 c2:Nat) (A3:Option Addr) (n3 c3:Nat) (x4:cx) (x5:Int) (A6:Option Addr) (n6 c6:Nat) (A7:Option Addr) (n7 c7:Nat) (A8:Option Addr) (n8 c8:Nat) (x9:Bool) (F G Z:Int),vs=[.slice A0 n0 c0,.slice A1 n1 c1,.slice A2 n2 c2,.slice A3 n3 c3,.string x4,.int .i64 x5,.slice A6 n6 c6,.slice A7 n7 c7,.slice A8 n8 c8,.bool x9,.int .i64 F,.int .i64 G,.int .i64 Z]:=by
 obtain⟨x0,x1,x2,x3,x4,x5,x6,x7,x8,x9,F,G,Z⟩:=t
 obtain⟨A0,c0,A1,c1,A2,c2,A3,c3,A6,c6,A7,c7,A8,c8,rfl,-⟩:=O.gK h
 exact⟨_,_,_,_,_,_,_,_,_,_,_,_,_,_,_,_,_,_,_,_,_,_,_,_,_,_,_,rfl⟩
theorem og (A:Option Addr) (n cap:Nat) (w:World) (hn:n<=1048576) (hB:∀c,w.heap.size<=c->LN w c A n):Calls prog 11 #[.slice A n cap] w (akk w):=by
 have HB:=I hB
 clear hB
 go_enter func11,ntmps11
 go_upto_region 1 with (fail)
 refine cZ fun wl OU=>?_
 have hzl:wl.heap.size=w.heap.size+1+1:=by rw[<-OU];simp
 have yT:U w wl:=by rw[<-OU];exact bl
 have RL:=I (show SB wl w.heap.size (.slice none 0 0) (.slice none 0 0) (.slice none 0 0) (.slice none 0 0) (.string ByteArray.empty) (.int .i64 0) (.slice none 0 0) (.slice none 0 0) (.slice none 0 0) (.bool false) (.int .i64 0) (.int .i64 0) (.int .i64 0)from by rw[<-OU];exact SB.on (SB.new w 30) (U.alloc (U.refl _) _))
 have ZL:=I (show Z6 wl (w.heap.size+1)from by rw[<-OU];have h:=Z6.new (w:=w.alloc (.cells #[.slice none 0 0,.slice none 0 0,.slice none 0 0,.slice none 0 0,.string ByteArray.empty,.int .i64 0,.slice none 0 0,.slice none 0 0,.slice none 0 0,.bool false,.int .i64 0,.int .i64 0,.int .i64 0] 30)) (t:=34);rw[World.size_alloc]at h;exact h)
 clear OU
 have HZL:=I hzl
 have jP:w.heap.size+1<wl.heap.size:=aF
 clear hzl
 go_upto_region 2 with (go_at_call 22;refine (DQ A n cap wl hn (fun c h=>(HB.out c aF).on (ic.dH yT))).mono ?_;rintro e w1 ⟨rfl,pw,dE⟩;have mc:=I pw;have Hb1:=I dE;clear pw dE)
 obtain⟨c,hce⟩:∃x,wl.heap.size=x:=⟨_,rfl⟩
 rw[hce]at mc
 simp only[hce]
 have vx:=mc.out.1
 have hcw:w.heap.size+1<c:=aF
 go_upto_region 3 with (go_at_call 23;refine (yd c A n cap w1 mc.out).mono ?_;rintro e w2 ⟨t,vs,rfl,hv,aaG,Gh,Xj,sR,qE⟩;have HV:=I hv;have Kw:=I Gh;have HMD:=I Xj;have sD:=I sR;have nO:=I qE;clear hv sR qE Gh Xj;obtain⟨A0,n0,c0,A1,n1,c1,A2,n2,c2,A3,n3,c3,x4,x5,A6,n6,c6,A7,n7,c7,A8,n8,c8,x9,F,G,Z,rfl⟩:=yh HV.out)
 refine cZ fun w3 ve=>?_
 have jx:U w2 w3:=by rw[<-ve];exact bl
 have B3:=I (show SB w3 w2.heap.size (.slice A0 n0 c0) (.slice A1 n1 c1) (.slice A2 n2 c2) (.slice A3 n3 c3) (.string x4) (.int .i64 x5) (.slice A6 n6 c6) (.slice A7 n7 c7) (.slice A8 n8 c8) (.bool x9) (.int .i64 F) (.int .i64 G) (.int .i64 Z)from by rw[<-ve];exact SB.new w2 _)
 have xz:=I (sD.out.de jx)
 have Ua:w2.heap.size<w3.heap.size:=B3.out.1
 clear ve
 obtain⟨b5,xA⟩:∃x,w2.heap.size=x:=⟨_,rfl⟩
 rw[xA]at B3
 simp only[xA]
 obtain⟨lw,hlw⟩:∃x,w1.heap.size=x:=⟨_,rfl⟩
 have Ba:=nO.out.size
 have rZ:=Hb1.out.size
 obtain⟨r2,hr2⟩:∃x,w.heap.size=x:=⟨_,rfl⟩
 obtain⟨r3,hr3⟩:∃x,w.heap.size+1=x:=⟨_,rfl⟩
 have D3:=I (show DV w c lw b5 r3 (.slice A0 n0 c0) (.slice A1 n1 c1) (.slice A2 n2 c2) (.slice A3 n3 c3) (.string x4) (.int .i64 x5) (.slice A6 n6 c6) (.slice A7 n7 c7) (.slice A8 n8 c8) (.bool x9) (.int .i64 F) (.int .i64 G) (.int .i64 Z) t.D w3 from by
  rw[<-hlw,<-xA,<-hr3]
  exact⟨Y.cA.de jx HV.out,by rw[xA];exact B3.out,((ZL.out.on Hb1.out).gV nO.out aF).on jx,(ic.de (yT.trans Hb1.out) nO.out aF).trans jx,by omega⟩)
 have R3:=I (show SB w3 r2 (.slice none 0 0) (.slice none 0 0) (.slice none 0 0) (.slice none 0 0) (.string ByteArray.empty) (.int .i64 0) (.slice none 0 0) (.slice none 0 0) (.slice none 0 0) (.bool false) (.int .i64 0) (.int .i64 0) (.int .i64 0)from by rw[<-hr2];exact (((RL.out.on Hb1.out).block nO.out.size (nO.out.block _ (by have:=RL.out.1;omega) aF)).on jx))
 have PI:r2≠c:=aF
 have I0:¬(fun b=>lw<=b) c:=by show ¬lw<=c;omega
 have Xk:c≠b5:=aF
 have UY:w.heap.size<=r2:=aF
 have UZ:r2<lw:=aF
 have U0:r2≠b5:=aF
 have I5:r2≠r3:=aF
 have aeH:r3<lw:=aF
 have aeI:w.heap.size<=r3:=aF
 clear HB RL ZL mc Hb1 HV sD nO B3 jx yT HZL
 simp only[hr3]
 simp only[hr2]
 clear hr3 hce xA hlw Ba rZ Ua jP vx
 go_upto_if 11 with (go_at_call 42;refine (lQ 6 c A n cap _ xz.out aO).mono ?_;rintro e w4 ⟨zz,rfl,hC,hO⟩;have Ge:=I hC;have D4:=I (D3.out.gV hO);have R4:=I (R3.out.block hO.size (hO.block r2 R3.out.1 PI));clear hC hO)
 clear D3 R3 xz
 cases zz
 ·
  go_upto_region 5 with (fail)
  refine ea 4 (fun s f wq=>(s 0=true->(f 0)=.agg #[.slice A0 n0 c0,.slice A1 n1 c1,.slice A2 n2 c2,.slice A3 n3 c3,.string x4,.int .i64 x5,.slice A6 n6 c6,.slice A7 n7 c7,.slice A8 n8 c8,.bool x9,.int .i64 F,.int .i64 G,.int .i64 Z])/\(s 1=true->(f 1)=.pointer (some ⟨c,0,none⟩))/\(s 2=true->∃v:cC,v.Ok/\(f 2)=.agg #[.int .i64 v.k,.int .i64 v.n,.int .i64 v.i,.string v.t,.int .i64 v.lo,.int .i64 v.hi])/\(s 2=false->kC wq c A n cap)/\(DV w c lw b5 r3 (.slice A0 n0 c0) (.slice A1 n1 c1) (.slice A2 n2 c2) (.slice A3 n3 c3) (.string x4) (.int .i64 x5) (.slice A6 n6 c6) (.slice A7 n7 c7) (.slice A8 n8 c8) (.bool x9) (.int .i64 F) (.int .i64 G) (.int .i64 Z) t.D wq)/\(s 3=false->SB wq r2 (.slice none 0 0) (.slice none 0 0) (.slice none 0 0) (.slice none 0 0) (.string ByteArray.empty) (.int .i64 0) (.slice none 0 0) (.slice none 0 0) (.slice none 0 0) (.bool false) (.int .i64 0) (.int .i64 0) (.int .i64 0))/\(s 3=true->SB wq r2 (.slice A0 n0 c0) (.slice A1 n1 c1) (.slice A2 n2 c2) (.slice A3 n3 c3) (.string x4) (.int .i64 x5) (.slice A6 n6 c6) (.slice A7 n7 c7) (.slice A8 n8 c8) (.bool x9) (.int .i64 F) (.int .i64 G) (.int .i64 Z))) [(0,some 15),(1,some 16),(2,some 17),(3,none),(4,none)] rfl aG aG ?hJ rfl ?hstep ?hlast
  case hJ=>exact fun u=>⟨cS,cS,cS,fun _=>Ge.out.de bl,D4.out.gV (ic.dH bl),fun _=>R4.out.on bl,cS⟩
  case hstep =>
   simp only[gZ,Act.put,aa,ab,ae,af,ag,aj]
   refine (ct (i:=0) (i2:=1) (o:=_) rfl ?s0 (ct (i:=1) (i2:=2) (o:=_) rfl ?s1 (ct (i:=2) (i2:=3) (o:=_) rfl ?s2 (ct (i:=3) (i2:=4) (o:=_) rfl ?s3 (fW aI)))))
   case s0 =>
    exact Xl
   case s1 =>
    exact Xm
   case s2 =>
    intro uf wa s hs ha cl hJ K hK
    obtain⟨fF,cI,eM,yU,oO,vy,yV⟩:=hJ
    have nR:=cI (ha 1 aG)
    have h3:s 3=false:=by cases hq:s 3 with | false=>rfl | true=>exact absurd (cl 3 hq 2 aG) aT
    have I6:=yU hs
    have hZ:=vy h3
    simp only[Act.put,aa,ab,ae,af,ag,aj]at hK |-
    rw[nR]at hK |-
    go_simp
    go_at_call 24
    refine (Bk t (fun b=>lw<=b) b5 c A n cap wa I6 (oO.store rfl) I0 (Ne.symm Xk) aF).mono ?_
    rintro e w5 ⟨⟨k5,n5,i5,t5,l5,h5⟩,hv,he,hC,hO⟩
    exact Xn
   case s3 =>
    intro uf wa s hs ha cl hJ K hK
    obtain⟨fF,cI,eM,yU,oO,vy,yV⟩:=hJ
    have Bs:=fF (ha 0 aG)
    have hZ:=vy hs
    simp only[Act.put,aa,ab,ae,af,ag,aj]at hK |-
    rw[Bs]at hK |-
    refine wp_store_mid 30 (.tmp 2) (.tmp 15) rfl r2 0 #[.slice A0 n0 c0,.slice A1 n1 c1,.slice A2 n2 c2,.slice A3 n3 c3,.string x4,.int .i64 x5,.slice A6 n6 c6,.slice A7 n7 c7,.slice A8 n8 c8,.bool x9,.int .i64 F,.int .i64 G,.int .i64 Z] rfl rfl hZ.there aG aW ?_
    exact hK.out undef _ ⟨fF,cI,eM,fun h=>absurd ((ha 2 aG).symm.trans h) aI,oO.but (jJ r2 [.slice A0 n0 c0,.slice A1 n1 c1,.slice A2 n2 c2,.slice A3 n3 c3,.string x4,.int .i64 x5,.slice A6 n6 c6,.slice A7 n7 c7,.slice A8 n8 c8,.bool x9,.int .i64 F,.int .i64 G,.int .i64 Z] 0 wa) UY UZ U0 I5,fun h=>absurd (show true=false from h) aI,fun _=>hZ.fill (.slice A0 n0 c0) (.slice A1 n1 c1) (.slice A2 n2 c2) (.slice A3 n3 c3) (.string x4) (.int .i64 x5) (.slice A6 n6 c6) (.slice A7 n7 c7) (.slice A8 n8 c8) (.bool x9) (.int .i64 F) (.int .i64 G) (.int .i64 Z)⟩
  case hlast =>
   simp only[gZ,Act.put,aa,ab,ae,af,ag,aj]
   intro uf wa ⟨s,fh,hJ⟩ K hK
   obtain⟨fF,cI,eM,yU,oO,vy,yV⟩:=hJ
   obtain⟨⟨k5,n5,i5,t5,l5,h5⟩,hv,lr⟩:=eM (fh 2 aI)
   have hX:=yV (fh 3 aI)
   simp only at lr
   rw[lr]at hK |-
   clear fF cI eM yU vy yV fh
   refine wp_store_mid 34 (.tmp 3) (.tmp 17) rfl r3 0 #[.int .i64 k5,.int .i64 n5,.int .i64 i5,.string t5,.int .i64 l5,.int .i64 h5] rfl rfl (yg oO.z3) aG aW ?_
   exact Xo
 ·
  go_upto_region 4 with (fail)
  refine ea 4 (fun s f wq=>(s 0=true->(f 0)=.agg #[.slice A0 n0 c0,.slice A1 n1 c1,.slice A2 n2 c2,.slice A3 n3 c3,.string x4,.int .i64 x5,.slice A6 n6 c6,.slice A7 n7 c7,.slice A8 n8 c8,.bool x9,.int .i64 F,.int .i64 G,.int .i64 Z])/\(s 1=true->(f 1)=.pointer (some ⟨c,0,none⟩))/\(s 2=true->∃v:cC,v.Ok/\(f 2)=.agg #[.int .i64 v.k,.int .i64 v.n,.int .i64 v.i,.string v.t,.int .i64 v.lo,.int .i64 v.hi])/\(s 2=false->kC wq c A n cap)/\(DV w c lw b5 r3 (.slice A0 n0 c0) (.slice A1 n1 c1) (.slice A2 n2 c2) (.slice A3 n3 c3) (.string x4) (.int .i64 x5) (.slice A6 n6 c6) (.slice A7 n7 c7) (.slice A8 n8 c8) (.bool x9) (.int .i64 F) (.int .i64 G) (.int .i64 Z) t.D wq)/\(s 3=false->SB wq r2 (.slice none 0 0) (.slice none 0 0) (.slice none 0 0) (.slice none 0 0) (.string ByteArray.empty) (.int .i64 0) (.slice none 0 0) (.slice none 0 0) (.slice none 0 0) (.bool false) (.int .i64 0) (.int .i64 0) (.int .i64 0))/\(s 3=true->SB wq r2 (.slice A0 n0 c0) (.slice A1 n1 c1) (.slice A2 n2 c2) (.slice A3 n3 c3) (.string x4) (.int .i64 x5) (.slice A6 n6 c6) (.slice A7 n7 c7) (.slice A8 n8 c8) (.bool x9) (.int .i64 F) (.int .i64 G) (.int .i64 Z))) [(0,some 12),(1,some 13),(2,some 14),(3,none),(4,none)] rfl aG aG ?hJ rfl ?hstep ?hlast
  case hJ=>exact fun u=>⟨cS,cS,cS,fun _=>Ge.out.de bl,D4.out.gV (ic.dH bl),fun _=>R4.out.on bl,cS⟩
  case hstep =>
   simp only[gZ,Act.put,aa,ab,ae,af,ag,aj]
   refine (ct (i:=0) (i2:=1) (o:=_) rfl ?s0 (ct (i:=1) (i2:=2) (o:=_) rfl ?s1 (ct (i:=2) (i2:=3) (o:=_) rfl ?s2 (ct (i:=3) (i2:=4) (o:=_) rfl ?s3 (fW aI)))))
   case s0 =>
    exact Xl
   case s1 =>
    exact Xm
   case s2 =>
    intro uf wa s hs ha cl hJ K hK
    obtain⟨fF,cI,eM,yU,oO,vy,yV⟩:=hJ
    have nR:=cI (ha 1 aG)
    have h3:s 3=false:=by cases hq:s 3 with | false=>rfl | true=>exact absurd (cl 3 hq 2 aG) aT
    have I6:=yU hs
    have hZ:=vy h3
    simp only[Act.put,aa,ab,ae,af,ag,aj]at hK |-
    rw[nR]at hK |-
    go_simp
    go_at_call 43
    refine (zw c A n cap wa I6).mono ?_
    rintro e w5 ⟨⟨k5,n5,i5,t5,l5,h5⟩,hv,he,hC,hO⟩
    exact Xn
   case s3 =>
    intro uf wa s hs ha cl hJ K hK
    obtain⟨fF,cI,eM,yU,oO,vy,yV⟩:=hJ
    have Bs:=fF (ha 0 aG)
    have hZ:=vy hs
    simp only[Act.put,aa,ab,ae,af,ag,aj]at hK |-
    rw[Bs]at hK |-
    refine wp_store_mid 30 (.tmp 2) (.tmp 12) rfl r2 0 #[.slice A0 n0 c0,.slice A1 n1 c1,.slice A2 n2 c2,.slice A3 n3 c3,.string x4,.int .i64 x5,.slice A6 n6 c6,.slice A7 n7 c7,.slice A8 n8 c8,.bool x9,.int .i64 F,.int .i64 G,.int .i64 Z] rfl rfl hZ.there aG aW ?_
    exact hK.out undef _ ⟨fF,cI,eM,fun h=>absurd ((ha 2 aG).symm.trans h) aI,oO.but (jJ r2 [.slice A0 n0 c0,.slice A1 n1 c1,.slice A2 n2 c2,.slice A3 n3 c3,.string x4,.int .i64 x5,.slice A6 n6 c6,.slice A7 n7 c7,.slice A8 n8 c8,.bool x9,.int .i64 F,.int .i64 G,.int .i64 Z] 0 wa) UY UZ U0 I5,fun h=>absurd (show true=false from h) aI,fun _=>hZ.fill (.slice A0 n0 c0) (.slice A1 n1 c1) (.slice A2 n2 c2) (.slice A3 n3 c3) (.string x4) (.int .i64 x5) (.slice A6 n6 c6) (.slice A7 n7 c7) (.slice A8 n8 c8) (.bool x9) (.int .i64 F) (.int .i64 G) (.int .i64 Z)⟩
  case hlast =>
   simp only[gZ,Act.put,aa,ab,ae,af,ag,aj]
   intro uf wa ⟨s,fh,hJ⟩ K hK
   obtain⟨fF,cI,eM,yU,oO,vy,yV⟩:=hJ
   obtain⟨⟨k5,n5,i5,t5,l5,h5⟩,hv,lr⟩:=eM (fh 2 aI)
   have hX:=yV (fh 3 aI)
   simp only at lr
   rw[lr]at hK |-
   clear fF cI eM yU vy yV fh
   refine wp_store_mid 34 (.tmp 3) (.tmp 14) rfl r3 0 #[.int .i64 k5,.int .i64 n5,.int .i64 i5,.string t5,.int .i64 l5,.int .i64 h5] rfl rfl (yg oO.z3) aG aW ?_
   exact Xo
def akm (w:World) (e:Ending) (w':World):Prop:=∃(t:O) (vs:List Value) (r v:cC),e=.returned (.tuple #[.agg vs.toArray,r.val,v.val])/\Y.cA w' (fun b=>w.heap.size<=b) t.D vs/\t.objects.length<=25/\(0<=t.made/\t.made<=25/\Y.Gf t.D<=100000)/\r.Ok/\v.Ok/\U w w'
theorem aeJ {w:World} {b:Nat} (h:Z6 w b) (k n i:Int) (t:cx) (lo hi:Int):V6 (w.setCells b 0 [.int .i64 k,.int .i64 n,.int .i64 i,.string t,.int .i64 lo,.int .i64 hi]) b k n i t lo hi:=by
 obtain⟨e0,e1,e2,e3,e4,e5⟩:=Fc h (.int .i64 k) (.int .i64 n) (.int .i64 i) (.string t) (.int .i64 lo) (.int .i64 hi)
 obtain⟨c0,c1,c2,c3,c4,c5,f,l⟩:=h
 exact⟨by rw[(jJ b _ 0 w).size];exact l,fun o=>by simp[World.setCells,f],e0,e1,e2,e3,e4,e5⟩
theorem tf (A:Option Addr) (n cap:Nat) (w:World) (hn:n<=1048576) (hB:∀c,w.heap.size<=c->LN w c A n):Calls prog 6 #[.slice A n cap] w (akm w):=by
 have HB:=I hB
 clear hB
 go_enter func6,ntmps6
 go_upto_region 1 with (fail)
 refine cZ fun wl OU=>?_
 have hzl:wl.heap.size=w.heap.size+1+1+1:=by rw[<-OU];simp
 have yT:U w wl:=by rw[<-OU];exact bl
 have RL:=I (show SB wl w.heap.size (.slice none 0 0) (.slice none 0 0) (.slice none 0 0) (.slice none 0 0) (.string ByteArray.empty) (.int .i64 0) (.slice none 0 0) (.slice none 0 0) (.slice none 0 0) (.bool false) (.int .i64 0) (.int .i64 0) (.int .i64 0)from by rw[<-OU];exact SB.on (SB.new w 30) (U.alloc (U.alloc (U.refl _) _) _))
 have YL:=I (show Z6 wl (w.heap.size+1)from by rw[<-OU];have h:=Z6.new (w:=w.alloc (.cells #[.slice none 0 0,.slice none 0 0,.slice none 0 0,.slice none 0 0,.string ByteArray.empty,.int .i64 0,.slice none 0 0,.slice none 0 0,.slice none 0 0,.bool false,.int .i64 0,.int .i64 0,.int .i64 0] 30)) (t:=34);rw[World.size_alloc]at h;exact h.on (U.alloc (U.refl _) _))
 have ZL:=I (show Z6 wl (w.heap.size+1+1)from by rw[<-OU];have h:=Z6.new (w:=(w.alloc (.cells #[.slice none 0 0,.slice none 0 0,.slice none 0 0,.slice none 0 0,.string ByteArray.empty,.int .i64 0,.slice none 0 0,.slice none 0 0,.slice none 0 0,.bool false,.int .i64 0,.int .i64 0,.int .i64 0] 30)).alloc (.cells #[.int .i64 0,.int .i64 0,.int .i64 0,.string ByteArray.empty,.int .i64 0,.int .i64 0] 34)) (t:=34);rw[World.size_alloc,World.size_alloc]at h;exact h)
 clear OU
 have HZL:=I hzl
 have jP:w.heap.size+1+1<wl.heap.size:=aF
 clear hzl
 go_upto_region 2 with (go_at_call 22;refine (DQ A n cap wl hn (fun c h=>(HB.out c aF).on (ic.dH yT))).mono ?_;rintro e w1 ⟨rfl,pw,dE⟩;have mc:=I pw;have Hb1:=I dE;clear pw dE)
 obtain⟨c,hce⟩:∃x,wl.heap.size=x:=⟨_,rfl⟩
 rw[hce]at mc
 simp only[hce]
 have vx:=mc.out.1
 have hcw:w.heap.size+1+1<c:=aF
 go_upto_region 3 with (go_at_call 23;refine (yd c A n cap w1 mc.out).mono ?_;rintro e w2 ⟨t,vs,rfl,hv,aaG,Gh,Xj,sR,qE⟩;have HV:=I hv;have HMD:=I Xj;have sD:=I sR;have nO:=I qE;clear hv sR qE Gh Xj;obtain⟨A0,n0,c0,A1,n1,c1,A2,n2,c2,A3,n3,c3,x4,x5,A6,n6,c6,A7,n7,c7,A8,n8,c8,x9,F,G,Z,rfl⟩:=yh HV.out)
 refine cZ fun w3 ve=>?_
 have jx:U w2 w3:=by rw[<-ve];exact bl
 have B3:=I (show SB w3 w2.heap.size (.slice A0 n0 c0) (.slice A1 n1 c1) (.slice A2 n2 c2) (.slice A3 n3 c3) (.string x4) (.int .i64 x5) (.slice A6 n6 c6) (.slice A7 n7 c7) (.slice A8 n8 c8) (.bool x9) (.int .i64 F) (.int .i64 G) (.int .i64 Z)from by rw[<-ve];exact SB.new w2 _)
 have xz:=I (sD.out.de jx)
 have Ua:w2.heap.size<w3.heap.size:=B3.out.1
 clear ve
 obtain⟨b5,xA⟩:∃x,w2.heap.size=x:=⟨_,rfl⟩
 rw[xA]at B3
 simp only[xA]
 obtain⟨lw,hlw⟩:∃x,w1.heap.size=x:=⟨_,rfl⟩
 have Ba:=nO.out.size
 have rZ:=Hb1.out.size
 obtain⟨r2,hr2⟩:∃x,w.heap.size=x:=⟨_,rfl⟩
 obtain⟨r3,hr3⟩:∃x,w.heap.size+1=x:=⟨_,rfl⟩
 obtain⟨r4,nj⟩:∃x,w.heap.size+1+1=x:=⟨_,rfl⟩
 have D3:=I (show DV w c lw b5 r4 (.slice A0 n0 c0) (.slice A1 n1 c1) (.slice A2 n2 c2) (.slice A3 n3 c3) (.string x4) (.int .i64 x5) (.slice A6 n6 c6) (.slice A7 n7 c7) (.slice A8 n8 c8) (.bool x9) (.int .i64 F) (.int .i64 G) (.int .i64 Z) t.D w3 from by
  rw[<-hlw,<-xA,<-nj]
  exact⟨Y.cA.de jx HV.out,by rw[xA];exact B3.out,((ZL.out.on Hb1.out).gV nO.out aF).on jx,(ic.de (yT.trans Hb1.out) nO.out aF).trans jx,by omega⟩)
 have R3:=I (show SB w3 r2 (.slice none 0 0) (.slice none 0 0) (.slice none 0 0) (.slice none 0 0) (.string ByteArray.empty) (.int .i64 0) (.slice none 0 0) (.slice none 0 0) (.slice none 0 0) (.bool false) (.int .i64 0) (.int .i64 0) (.int .i64 0)from by rw[<-hr2];exact (((RL.out.on Hb1.out).block nO.out.size (nO.out.block _ (by have:=RL.out.1;omega) aF)).on jx))
 have Z3:=I (show Z6 w3 r3 from by rw[<-hr3];exact ((YL.out.on Hb1.out).gV nO.out aF).on jx)
 have PI:r2≠c:=aF
 have U1:r3≠c:=aF
 have I0:¬(fun b=>lw<=b) c:=by show ¬lw<=c;omega
 have Xk:c≠b5:=aF
 have UY:w.heap.size<=r2:=aF
 have UZ:r2<lw:=aF
 have U0:r2≠b5:=aF
 have I5:r2≠r3:=aF
 have aeK:r2≠r4:=aF
 have aeL:r3≠r4:=aF
 have aeH:r3<lw:=aF
 have aeI:w.heap.size<=r3:=aF
 have akn:r3≠b5:=aF
 have apH:r4<lw:=aF
 have apI:w.heap.size<=r4:=aF
 clear HB RL YL ZL mc Hb1 HV sD nO B3 jx yT HZL
 simp only[nj]
 simp only[hr3]
 simp only[hr2]
 clear nj hr3 hce xA hlw Ba rZ Ua jP vx
 refine ea 7 (fun s f wq=>(s 0=true->(f 0)=.agg #[.slice A0 n0 c0,.slice A1 n1 c1,.slice A2 n2 c2,.slice A3 n3 c3,.string x4,.int .i64 x5,.slice A6 n6 c6,.slice A7 n7 c7,.slice A8 n8 c8,.bool x9,.int .i64 F,.int .i64 G,.int .i64 Z])/\(s 1=true->(f 1)=.pointer (some ⟨c,0,none⟩))/\(s 2=true->∃v:cC,v.Ok/\(f 2)=.agg #[.int .i64 v.k,.int .i64 v.n,.int .i64 v.i,.string v.t,.int .i64 v.lo,.int .i64 v.hi])/\(s 3=true->(f 3)=.pointer (some ⟨c,0,none⟩))/\(s 4=true->∃v:cC,v.Ok/\(f 4)=.agg #[.int .i64 v.k,.int .i64 v.n,.int .i64 v.i,.string v.t,.int .i64 v.lo,.int .i64 v.hi])/\(s 5=false->kC wq c A n cap)/\(DV w c lw b5 r4 (.slice A0 n0 c0) (.slice A1 n1 c1) (.slice A2 n2 c2) (.slice A3 n3 c3) (.string x4) (.int .i64 x5) (.slice A6 n6 c6) (.slice A7 n7 c7) (.slice A8 n8 c8) (.bool x9) (.int .i64 F) (.int .i64 G) (.int .i64 Z) t.D wq)/\(s 5=false->SB wq r2 (.slice none 0 0) (.slice none 0 0) (.slice none 0 0) (.slice none 0 0) (.string ByteArray.empty) (.int .i64 0) (.slice none 0 0) (.slice none 0 0) (.slice none 0 0) (.bool false) (.int .i64 0) (.int .i64 0) (.int .i64 0))/\(s 5=true->SB wq r2 (.slice A0 n0 c0) (.slice A1 n1 c1) (.slice A2 n2 c2) (.slice A3 n3 c3) (.string x4) (.int .i64 x5) (.slice A6 n6 c6) (.slice A7 n7 c7) (.slice A8 n8 c8) (.bool x9) (.int .i64 F) (.int .i64 G) (.int .i64 Z))/\(s 6=false->Z6 wq r3)/\(s 6=true->∃v:cC,v.Ok/\V6 wq r3 v.k v.n v.i v.t v.lo v.hi)) [(0,some 11),(1,some 12),(2,some 13),(3,some 14),(4,some 15),(5,none),(6,none),(7,none)] rfl aG aG ?hJ rfl ?hstep ?hlast
 case hJ=>exact fun u=>⟨cS,cS,cS,cS,cS,fun _=>xz.out.de bl,D3.out.gV (ic.dH bl),fun _=>R3.out.on bl,cS,fun _=>Z3.out.on bl,cS⟩
 case hstep =>
  simp only[gZ,Act.put,aa,ab,ae,af,ag,aj]
  refine (ct (i:=0) (i2:=1) (o:=_) rfl ?s0 (ct (i:=1) (i2:=2) (o:=_) rfl ?s1 (ct (i:=2) (i2:=3) (o:=_) rfl ?s2 (ct (i:=3) (i2:=4) (o:=_) rfl ?s3 (ct (i:=4) (i2:=5) (o:=_) rfl ?s4 (ct (i:=5) (i2:=6) (o:=_) rfl ?s5 (ct (i:=6) (i2:=7) (o:=_) rfl ?s6 (fW aI))))))))
  case s0 =>
   intro uf wa s hs ha cl hJ K hK
   obtain⟨fF,pG,xF,dZ,xG,yU,oO,vy,yV,I7,sG⟩:=hJ
   simp only[Act.put,aa,ab,ae,af,ag,aj]at hK |-
   obtain⟨lP,l4,gM,gN,gH,gO,gP,gQ,gR,gS,gT,gU,fu,fv,fw⟩:=oO.box
   go_simp
   exact hK.out _ _ ⟨fun _=>rfl,pG,xF,dZ,xG,yU,oO,vy,yV,I7,sG⟩
  case s1 =>
   intro uf wa s hs ha cl hJ K hK
   obtain⟨fF,pG,xF,dZ,xG,yU,oO,vy,yV,I7,sG⟩:=hJ
   simp only[Act.put,aa,ab,ae,af,ag,aj]at hK |-
   go_simp
   exact hK.out _ _ ⟨fF,fun _=>rfl,xF,dZ,xG,yU,oO,vy,yV,I7,sG⟩
  case s3 =>
   intro uf wa s hs ha cl hJ K hK
   obtain⟨fF,pG,xF,dZ,xG,yU,oO,vy,yV,I7,sG⟩:=hJ
   simp only[Act.put,aa,ab,ae,af,ag,aj]at hK |-
   go_simp
   exact hK.out _ _ ⟨fF,pG,xF,fun _=>rfl,xG,yU,oO,vy,yV,I7,sG⟩
  case s2 =>
   intro uf wa s hs ha cl hJ K hK
   obtain⟨fF,pG,xF,dZ,xG,yU,oO,vy,yV,I7,sG⟩:=hJ
   have nR:=pG (ha 1 aG)
   have h5:s 5=false:=by cases hq:s 5 with | false=>rfl | true=>exact absurd (cl 4 (cl 5 hq 4 aG) 2 aG) aT
   have I6:=yU h5
   simp only[Act.put,aa,ab,ae,af,ag,aj]at hK |-
   rw[nR]at hK |-
   go_simp
   go_at_call 24
   refine (Bk t (fun b=>lw<=b) b5 c A n cap wa I6 (oO.store rfl) I0 (Ne.symm Xk) aF).mono ?_
   rintro e w5 ⟨⟨LO,LP,i55,t55,LQ,LR⟩,hv,he,hC,hO⟩
   replace he:e=.returned (.agg #[.int .i64 LO,.int .i64 LP,.int .i64 i55,.string t55,.int .i64 LQ,.int .i64 LR]):=he
   subst he
   exact hK.out _ _ ⟨fF,pG,fun _=>⟨⟨LO,LP,i55,t55,LQ,LR⟩,hv,rfl⟩,dZ,xG,fun _=>hC,oO.gV hO,fun h=>(vy h).block hO.size (hO.block r2 (vy h).1 PI),fun h=>absurd (h5.symm.trans h) aI,fun h=>(I7 h).gV hO U1,fun h=>(sG h).imp fun v q=>⟨q.1,q.2.block hO.size (hO.block r3 q.2.lt U1)⟩⟩
  case s4 =>
   intro uf wa s hs ha cl hJ K hK
   obtain⟨fF,pG,xF,dZ,xG,yU,oO,vy,yV,I7,sG⟩:=hJ
   have nR:=dZ (ha 3 aG)
   have h5:s 5=false:=by cases hq:s 5 with | false=>rfl | true=>exact absurd (cl 5 hq 4 aG) aT
   have I6:=yU h5
   simp only[Act.put,aa,ab,ae,af,ag,aj]at hK |-
   rw[nR]at hK |-
   go_simp
   go_at_call 25
   refine (mT t (fun b=>lw<=b) b5 c A n cap wa I6 (oO.store rfl) I0 (Ne.symm Xk) aF).mono ?_
   rintro e w5 ⟨⟨LO,LP,i55,t55,LQ,LR⟩,hv,he,hC,hO⟩
   replace he:e=.returned (.agg #[.int .i64 LO,.int .i64 LP,.int .i64 i55,.string t55,.int .i64 LQ,.int .i64 LR]):=he
   subst he
   exact hK.out _ _ ⟨fF,pG,xF,dZ,fun _=>⟨⟨LO,LP,i55,t55,LQ,LR⟩,hv,rfl⟩,fun _=>hC,oO.gV hO,fun h=>(vy h).block hO.size (hO.block r2 (vy h).1 PI),fun h=>absurd (h5.symm.trans h) aI,fun h=>(I7 h).gV hO U1,fun h=>(sG h).imp fun v q=>⟨q.1,q.2.block hO.size (hO.block r3 q.2.lt U1)⟩⟩
  case s5 =>
   intro uf wa s hs ha cl hJ K hK
   obtain⟨fF,pG,xF,dZ,xG,yU,oO,vy,yV,I7,sG⟩:=hJ
   have Bs:=fF (ha 0 aG)
   have hZ:=vy hs
   simp only[Act.put,aa,ab,ae,af,ag,aj]at hK |-
   rw[Bs]at hK |-
   refine wp_store_mid 30 (.tmp 2) (.tmp 11) rfl r2 0 #[.slice A0 n0 c0,.slice A1 n1 c1,.slice A2 n2 c2,.slice A3 n3 c3,.string x4,.int .i64 x5,.slice A6 n6 c6,.slice A7 n7 c7,.slice A8 n8 c8,.bool x9,.int .i64 F,.int .i64 G,.int .i64 Z] rfl rfl hZ.there aG aW ?_
   have hB:=jJ r2 [.slice A0 n0 c0,.slice A1 n1 c1,.slice A2 n2 c2,.slice A3 n3 c3,.string x4,.int .i64 x5,.slice A6 n6 c6,.slice A7 n7 c7,.slice A8 n8 c8,.bool x9,.int .i64 F,.int .i64 G,.int .i64 Z] 0 wa
   exact hK.out undef _ ⟨fF,pG,xF,dZ,xG,fun h=>absurd (show true=false from h) aI,oO.but hB UY UZ U0 aeK,fun h=>absurd (show true=false from h) aI,fun _=>hZ.fill (.slice A0 n0 c0) (.slice A1 n1 c1) (.slice A2 n2 c2) (.slice A3 n3 c3) (.string x4) (.int .i64 x5) (.slice A6 n6 c6) (.slice A7 n7 c7) (.slice A8 n8 c8) (.bool x9) (.int .i64 F) (.int .i64 G) (.int .i64 Z),fun h=>(I7 h).block (Nat.le_of_eq hB.size.symm) (hB.block r3 (Ne.symm I5)),fun h=>(sG h).imp fun v q=>⟨q.1,q.2.block (Nat.le_of_eq hB.size.symm) (hB.block r3 (Ne.symm I5))⟩⟩
  case s6 =>
   intro uf wa s hs ha cl hJ K hK
   obtain⟨fF,pG,xF,dZ,xG,yU,oO,vy,yV,I7,sG⟩:=hJ
   obtain⟨⟨LO,LP,i55,t55,LQ,LR⟩,hv,e_c⟩:=xF (ha 2 aG)
   simp only at e_c
   have hY:=I7 hs
   have h5:s 5=true:=ha 5 aG
   simp only[Act.put,aa,ab,ae,af,ag,aj]at hK |-
   rw[e_c]at hK |-
   refine wp_store_mid 34 (.tmp 3) (.tmp 13) rfl r3 0 #[.int .i64 LO,.int .i64 LP,.int .i64 i55,.string t55,.int .i64 LQ,.int .i64 LR] rfl rfl (yg hY) aG aW ?_
   have hB:=jJ r3 [.int .i64 LO,.int .i64 LP,.int .i64 i55,.string t55,.int .i64 LQ,.int .i64 LR] 0 wa
   exact hK.out undef _ ⟨fF,pG,xF,dZ,xG,fun h=>absurd (h5.symm.trans h) aI,oO.but hB aeI aeH akn aeL,fun h=>absurd (h5.symm.trans h) aI,fun h=>(yV h).block (Nat.le_of_eq hB.size.symm) (hB.block r2 I5),fun h=>absurd (show true=false from h) aI,fun _=>⟨⟨LO,LP,i55,t55,LQ,LR⟩,hv,aeJ hY LO LP i55 t55 LQ LR⟩⟩
 case hlast =>
  simp only[gZ,Act.put,aa,ab,ae,af,ag,aj]
  intro uf wa ⟨s,fh,hJ⟩ K hK
  obtain⟨fF,pG,xF,dZ,xG,yU,oO,vy,yV,I7,sG⟩:=hJ
  obtain⟨⟨U2,U3,i66,t66,U4,U5⟩,hv,lr⟩:=xG (fh 4 aI)
  have hX:=yV (fh 5 aI)
  obtain⟨⟨LO,LP,i55,t55,LQ,LR⟩,hr,hW⟩:=sG (fh 6 aI)
  simp only at lr hW
  rw[lr]at hK |-
  clear fF pG xF dZ xG yU vy yV I7 sG fh
  refine wp_store_mid 34 (.tmp 4) (.tmp 15) rfl r4 0 #[.int .i64 U2,.int .i64 U3,.int .i64 i66,.string t66,.int .i64 U4,.int .i64 U5] rfl rfl (yg oO.z3) aG aW ?_
  refine hK.out undef _ ?_
  have hB:=jJ r4 [.int .i64 U2,.int .i64 U3,.int .i64 i66,.string t66,.int .i64 U4,.int .i64 U5] 0 wa
  have hF:=Fc oO.z3 (.int .i64 U2) (.int .i64 U3) (.int .i64 i66) (.string t66) (.int .i64 U4) (.int .i64 U5)
  have hX2:=hX.block (Nat.le_of_eq hB.size.symm) (hB.block r2 aeK)
  have hW2:=hW.block (Nat.le_of_eq hB.size.symm) (hB.block r3 aeL)
  have oZ:Y.cA (wa.setCells r4 0 [.int .i64 U2,.int .i64 U3,.int .i64 i66,.string t66,.int .i64 U4,.int .i64 U5]) (fun b=>w.heap.size<=b) t.D [.slice A0 n0 c0,.slice A1 n1 c1,.slice A2 n2 c2,.slice A3 n3 c3,.string x4,.int .i64 x5,.slice A6 n6 c6,.slice A7 n7 c7,.slice A8 n8 c8,.bool x9,.int .i64 F,.int .i64 G,.int .i64 Z]:=(Y.cA.sC (S0:=fun b=>lw<=b) ⟨hB.os,hB.tape,hB.output,by have:=hB.size;omega,fun d hd _=>hB.block d aF⟩ (fun _ hx=>hx) oO.val).wide (fun b hb=>by omega)
  have gC:U w (wa.setCells r4 0 [.int .i64 U2,.int .i64 U3,.int .i64 i66,.string t66,.int .i64 U4,.int .i64 U5]):=⟨hB.os.trans oO.de.os,hB.tape.trans oO.de.tape,hB.output.trans oO.de.output,by have h1:=oO.de.size;have h2:=hB.size;omega,fun d hd=>(hB.block d aF).trans (Below.block oO.de d hd)⟩
  obtain⟨wz,mW⟩:∃x,wa.setCells r4 0 [.int .i64 U2,.int .i64 U3,.int .i64 i66,.string t66,.int .i64 U4,.int .i64 U5]=x:=⟨_,rfl⟩
  rw[mW]at hF hX2 hW2 oZ gC
  rw[show wa.setCells r4 0 (#[Value.int .i64 U2,.int .i64 U3,.int .i64 i66,.string t66,.int .i64 U4,.int .i64 U5]:Array Value).toList=wz from mW]
  clear mW hB hX hW hK lr oO
  obtain⟨e0,e1,e2,e3,e4,e5⟩:=hF
  obtain⟨-,-,d0,d1,d2,d3,d4,d5,d6,d7,d8,d9,d10,d11,d12⟩:=hX2
  obtain⟨-,-,g0,g1,g2,g3,g4,g5⟩:=hW2
  have vz:=I oZ
  have HB2:=I gC
  have HVO:=I hv
  have HRO:=I hr
  clear oZ gC hv hr
  go_wp2_with (fail)
  exact bodyPost_ret (v:=.tuple #[.agg #[.slice A0 n0 c0,.slice A1 n1 c1,.slice A2 n2 c2,.slice A3 n3 c3,.string x4,.int .i64 x5,.slice A6 n6 c6,.slice A7 n7 c7,.slice A8 n8 c8,.bool x9,.int .i64 F,.int .i64 G,.int .i64 Z],.agg #[.int .i64 LO,.int .i64 LP,.int .i64 i55,.string t55,.int .i64 LQ,.int .i64 LR],.agg #[.int .i64 U2,.int .i64 U3,.int .i64 i66,.string t66,.int .i64 U4,.int .i64 U5]]) (by simp[results,results6,d0,d1,d2,d3,d4,d5,d6,d7,d8,d9,d10,d11,d12,e0,e1,e2,e3,e4,e5,g0,g1,g2,g3,g4,g5,go_sem];try rfl) rfl ⟨t,[.slice A0 n0 c0,.slice A1 n1 c1,.slice A2 n2 c2,.slice A3 n3 c3,.string x4,.int .i64 x5,.slice A6 n6 c6,.slice A7 n7 c7,.slice A8 n8 c8,.bool x9,.int .i64 F,.int .i64 G,.int .i64 Z],⟨LO,LP,i55,t55,LQ,LR⟩,⟨U2,U3,i66,t66,U4,U5⟩,rfl,vz.out,aaG,HMD.out,HRO.out,HVO.out,HB2.out⟩
end Go.Proofs.YtjngkknbpfgdcaaGreatDoor
