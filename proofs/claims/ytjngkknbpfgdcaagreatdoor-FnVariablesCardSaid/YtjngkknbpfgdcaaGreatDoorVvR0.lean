import Derived.Test.YtjngkknbpfgdcaaGreatDoorVvS3z
set_option linter.unusedVariables false
set_option linter.unusedSimpArgs false
set_option maxRecDepth 100000
set_option maxHeartbeats 8000000
namespace Go.Proofs.YtjngkknbpfgdcaaGreatDoor
open Go.RowKit Go.Proofs.Tryz
def zeroV:cC:=⟨0,0,0,ByteArray.empty,0,0⟩
def kh (s:O) (n:Int):cr:=s.objects.getD n.toNat (.mk 0 0 0 [] [])
def nG (s:O) (v:cC):cC × Int :=
 if v.k=13\/v.k=16 then (j0 (kh s v.n).items v.i.toNat,0)
 else if v.k=14 then (j0 s.globals v.i.toNat,0)
 else if v.k=15 then (if ((kh s v.n).items.length:Int)<=v.i then (zeroV,205) else (j0 (kh s v.n).items v.i.toNat,0))
 else if v.k=17 then (j0 (kh s (j0 (kh s v.n).items 0).n).items (1+lN (kh s (j0 (kh s v.n).items 0).n).keys (j0 (kh s v.n).items 1)).toNat,0)
 else if v.k=18 then (if v.i=1 then⟨2,0,0,s.uB,0,0⟩ else⟨1,s.position,0,ByteArray.empty,0,0⟩,0)
 else (v,0)
theorem iO {s:O} {m:Nat} (h:m<s.objects.length):kh s (m:Int)=s.objects[m]:=by
 unfold kh;rw[Int.toNat_natCast];simp[List.getD,h]
theorem lK {l:List R} {m:Nat} (h:m<l.length):j0 l m=l[m].v:=by unfold j0;simp[List.getD,h]
theorem gg {s:O} {v:cC} (h:eE s v=true):dD v=true:=by
 cases hw:dD v
 ·
  rw[ix hw]at h;cases h
 ·
  rfl
theorem jz {s:O} {k n i:Int} {t:cx} {lo hi:Int} (h:eE s ⟨k,n,i,t,lo,hi⟩=true) (hk:k=5\/k=13\/k=15\/k=16\/k=17) :
  ∃m:Nat,n=m/\∃hm:m<s.objects.length,s.objects[m].kind=dP k/\(k=13\/k=16->i<(s.objects[m].items.length:Int)):=by
 have hw:=gg h
 have hn:=il hw aF
 obtain⟨m,rfl⟩:=Int.eq_ofNat_of_zero_le hn
 have DL:dP k≠0:=by rcases hk with rfl | rfl | rfl | rfl | rfl <;> decide
 rw[ie hw DL]at h
 rcases Nat.lt_or_ge m s.objects.length with jP | Gn
 ·
  rw[jm (o:=s.objects[m]) (by simpa using jP) aJ]at h
  rw[Bool.and_eq_true,decide_eq_true_eq]at h
  refine⟨m,rfl,jP,h.1,fun hk=>?_⟩
  have h2:=h.2
  rw[if_pos hk]at h2
  simpa using h2
 ·
  rw[jR (by simpa using Gn)]at h;cases h
theorem BF {s:O} {n i:Int} {t:cx} {lo hi:Int} (h:eE s ⟨14,n,i,t,lo,hi⟩=true):i<(s.globals.length:Int):=by
 have hw:=gg h
 unfold eE at h
 rw[hw,if_neg (show ¬(dP 14≠0) by decide)]at h
 simpa using h
theorem BR {s:O} (h:eP s=true) (m:Nat) (hm:m<s.objects.length):cT s s.objects[m]=true:=by
 cases ho:cT s s.objects[m]
 ·
  rw[Fx m hm ho]at h;cases h
 ·
  rfl
theorem tS {s:O} (h:eP s=true) {m:Nat} (hm:m<s.objects.length) (hk:s.objects[m].kind=8) :
  ∃tag J:Int,∃a b:R,s.objects[m]=.mk 8 tag J [a,b] []/\a.v.k=5/\eE s a.v=true/\eE s b.v=true:=by
 have ho:=BR h m hm
 obtain⟨kd,tag,J,its,keys,e⟩:∃kd tag J its keys,s.objects[m]=.mk kd tag J its keys:=by cases s.objects[m];exact⟨_,_,_,_,_,rfl⟩
 rw[e]at hk ho
 obtain rfl:kd=8:=hk
 rw[jE]at ho
 simp only[Bool.and_eq_true,decide_eq_true_eq]at ho
 obtain⟨-,⟨⟨⟨⟨⟨-,UB⟩,hil⟩,h5⟩,alk⟩,hd⟩⟩:=ho
 obtain rfl:keys=[]:=List.length_eq_zero_iff.1 UB
 obtain⟨a,b,rfl⟩:∃a b,its=[a,b]:=by
  match its,hil with
  | [a,b],_=>exact⟨a,b,rfl⟩
 refine⟨tag,J,a,b,e,h5,alk,?_⟩
 unfold gn at hd
 rw[Bool.and_eq_true]at hd
 exact hd.2
theorem yp {s:O} (h:eP s=true) {m:Nat} (hm:m<s.objects.length) (hk:s.objects[m].kind=3) :
  ∃tag J its keys,s.objects[m]=.mk 3 tag J its keys/\its.length=keys.length+1:=by
 have ho:=BR h m hm
 obtain⟨kd,tag,J,its,keys,e⟩:∃kd tag J its keys,s.objects[m]=.mk kd tag J its keys:=by cases s.objects[m];exact⟨_,_,_,_,_,rfl⟩
 rw[e]at hk ho
 obtain rfl:kd=3:=hk
 rw[im]at ho
 simp only[Bool.and_eq_true,decide_eq_true_eq]at ho
 exact⟨tag,J,its,keys,e,ho.2.1.1.1.2⟩
theorem Vv (l:List R) (x:cC) : -1<=lN l x/\lN l x<(l.length:Int)+0\/lN l x = -1:=by
 unfold lN
 cases h:l.findIdx? (fun y=>y.v.pn x)with
 | none=>exact Or.inr rfl
 | some k =>
  have:=(List.findIdx?_eq_some_iff_getElem.1 h).1
  left;simp only;omega
theorem Bh (l:List R) (x:cC):∃d:Nat,1+lN l x=(d:Int)/\d<=l.length:=by
 rcases Vv l x with h | h
 ·
  exact⟨(1+lN l x).toNat,by omega,by omega⟩
 ·
  exact⟨0,by omega,by omega⟩
abbrev IK (f:FuncId) (s:O) (v:cC):Prop:=∀(S:Nat->Prop) (q:Nat) (w:World),cv w S q s->v.Ok ->
 Calls prog f #[.pointer (some ⟨q,0,none⟩),.agg #[.int .i64 v.k,.int .i64 v.n,.int .i64 v.i,.string v.t,.int .i64 v.lo,.int .i64 v.hi]] w fun e w' =>
  e=.returned (.tuple #[(nG s v).1.val,.int .i64 (nG s v).2])/\U w w'
--%quiet
theorem Fy (t:cx) (w:World):Calls prog 77 #[.string t] w fun e w'=>e=.returned (.agg #[.int .i64 2,.int .i64 0,.int .i64 0,.string t,.int .i64 0,.int .i64 0])/\U w w':=by
 go_enter func77,ntmps77
 go_wp2_with (fail)
 repeat (any_goals (go_quiet (fail);(try go_wp2_with (fail))))
 exact bodyPost_ret (v:=.agg #[.int .i64 2,.int .i64 0,.int .i64 0,.string t,.int .i64 0,.int .i64 0]) (by simp[results,results77,go_sem] <;> rfl) rfl ⟨rfl,bl⟩
theorem Hd (n:Int) (w:World):Calls prog 73 #[.int .i64 n] w fun e w'=>e=.returned (.agg #[.int .i64 1,.int .i64 n,.int .i64 0,.string ByteArray.empty,.int .i64 0,.int .i64 0])/\U w w':=by
 go_enter func73,ntmps73
 go_wp2_with (fail)
 repeat (any_goals (go_quiet (fail);(try go_wp2_with (fail))))
 exact bodyPost_ret (v:=.agg #[.int .i64 1,.int .i64 n,.int .i64 0,.string ByteArray.empty,.int .i64 0,.int .i64 0]) (by simp[results,results73,go_sem] <;> rfl) rfl ⟨rfl,bl⟩
theorem KH (kd tag J:Int) (its keys:List R) (x:cC) (S:Nat->Prop) (w:World) (Ai Ak:Option Addr) (ci ck:Nat) (hR:Row w S 6 Ak ck (keys.map R.D)) (hx:x.Ok) :
  Calls prog 79 #[.agg #[.int .i64 kd,.int .i64 tag,.int .i64 J,.slice Ai its.length ci,.slice Ak keys.length ck],.agg #[.int .i64 x.k,.int .i64 x.n,.int .i64 x.i,.string x.t,.int .i64 x.lo,.int .i64 x.hi]] w fun e w'=>e=.returned (.int .i64 (lN keys x))/\U w w':=by
 have HR:=I hR
 have hlen:=hR.1
 have gX:=hR.2.1
 simp only[ar]at hlen
 unfold maxLen at gX
 have fx:=hx.t
 unfold maxLen at fx
 clear hR
 obtain⟨k0,n0,i0,t0,qA,jh⟩:=x
 simp only at fx |-
 go_enter func79,ntmps79
 go_wp2_with (fail)
 repeat (any_goals (go_quiet (fail);(try go_wp2_with (fail))))
 go_loopw [5] (fun v wr=>∃m:Nat,v=.int .i64 m/\m<=keys.length/\Hid (∀j (hj:j<keys.length),j<m->keys[j].v.pn ⟨k0,n0,i0,t0,qA,jh⟩=false)/\U ((w.alloc (.cells #[.int .i64 kd,.int .i64 tag,.int .i64 J,.slice Ai its.length ci,.slice Ak keys.length ck] 81)).alloc (.cells #[.int .i64 k0,.int .i64 n0,.int .i64 i0,.string t0,.int .i64 qA,.int .i64 jh] 34)) wr) (fun v _=>keys.length - (intOf v).toNat)
 case atStart=>exact⟨0,rfl,by omega,fun j _ hj=>by omega,U.refl _⟩
 case round =>
  obtain⟨m,rfl,m1,hm,Gz⟩:=hrel
  have dX:U w wr:=bl
  have WN:=Gz.size
  simp only[World.size_alloc]at WN
  have afM:=Gz.box w.heap.size aH
  have afN:=Gz.box (w.heap.size+1) aJ
  have XW:w.heap.size<wr.heap.size:=aF
  have dS:w.heap.size+1<wr.heap.size:=aF
  by_cases h1:m<keys.length
  ·
   have hd:decide ((m:Int)<(keys.length:Int))=true:=aV
   (obtain⟨b1,o1,cz,cD,cE,cB,cF,cO,gb,dS,gy,gF,kP,eN,fi,eO,fT,gD,gE,fD,fE,fG,fK,fN,jy⟩:=R.el HR.out m h1 dX;subst gb)
   have iH:¬b1=wr.heap.size:=aF
   have hQ:=I (fun W=>nu cz cD cE cB cF cO k0 n0 i0 t0 qA jh W)
   have HQ:=I (show keys[m].v.pn ⟨k0,n0,i0,t0,qA,jh⟩=cC.pn ⟨cz,cD,cE,cB,cF,cO⟩ ⟨k0,n0,i0,t0,qA,jh⟩ by rw[gF.out];rfl)
   have hQ2:=hQ.out
   cases hn:cC.pn ⟨cz,cD,cE,cB,cF,cO⟩ ⟨k0,n0,i0,t0,qA,jh⟩
   ·
    have HN:=I hn
    rw[hn]at hQ2
    clear hn
    go_wp2_with (fail)
    repeat (any_goals (go_quiet (fail);(try go_wp2_with (fail))))
    go_roundw
    case rel=>exact⟨m+1,by go_num,by omega,fun j hj uy=>by
     by_cases e:j=m
     ·
      subst e;exact HQ.out.trans HN.out
     ·
      exact hm.out j hj aF,bl⟩
    case measure=>simp[intOf];omega
   ·
    have HA:=I (BG m h1 (HQ.out.trans hn) fun j hj uy=>hm.out j hj uy)
    rw[hn]at hQ2
    clear hn
    exact Qt
  ·
   have hd:decide ((m:Int)<(keys.length:Int))=false:=aV
   have HA:=I (D2 (l:=keys) fun k hk=>hm.out k hk aF)
   go_wp2_with (fail)
   repeat (any_goals (go_quiet (fail);(try go_wp2_with (fail))))
   all_goals
    go_returns
    exact⟨by rw[HA.out];first | done | rfl,bl⟩
theorem Mp (n i:Int) (t:cx) (lo hi:Int) (s:O) (gf:eE s ⟨13,n,i,t,lo,hi⟩=true):IK 46 s ⟨13,n,i,t,lo,hi⟩:=by
 intro S q w hs hv
 obtain⟨x0,x1,x2,x3,x4,x5,x6,x7,x8,x9,F,G,Z⟩:=s
 have js:=I hs
 obtain⟨A0,c0,A1,c1,A2,c2,A3,c3,A6,c6,A7,c7,A8,c8,hq,e0,e1,e2,e3,e4,e5,e6,e7,e8,e9,iE,jc,jd,fj,fm,fa,fb,ew,eL,eK,eV,eX,eY,fp,fq,fc,ff,g4,g5,g10,g11,g12,-,-,kp,-,-,-,-⟩:=cv.j8 hs
 clear hs
 have ga:¬q=w.heap.size:=aF
 have fx:=hv.t
 unfold maxLen at fx
 simp only at fx
 have dX:U w w:=U.refl w
 obtain⟨m,rfl,hm,sw,oQ⟩:=jz gf aF
 have jh:=jr (gg gf) aF
 obtain⟨j,rfl⟩:=Int.eq_ofNat_of_zero_le jh
 have hj:=oQ aF
 clear gf oQ sw jh
 simp only[O.gd]at hm hj
 (obtain⟨b1,o1,cz,cD,cE,cB,cF,l8,iz,jG,jD,gb,dS,gy,gF,kP,eN,fi,eO,ed,iF,fD,fE,fG,fK,fN⟩:=cr.el kp.out m hm dX;subst gb)
 have vw:j<cB.length:=by have:=gF.out;rw[this]at hj;exact Int.ofNat_lt.1 hj
 clear hj
 have oj:=ed.out.1
 have om:=ed.out.2.1
 simp only[ar]at oj
 unfold maxLen at om
 (obtain⟨b2,o2,da,dw,dx,dy,dz,dA,mO,mu,nn,od,vz,kv,kz,kA,iw,kD,kE,jS,jT,jU,jV,jW,j1⟩:=R.el ed.out j vw dX;subst mO)
 have dm:decide ((m:Int)<(x2.length:Int))=true:=aH
 have dj:decide ((j:Int)<(cB.length:Int))=true:=aH
 have iH:¬b1=w.heap.size:=aF
 have oC:¬b2=w.heap.size:=aF
 have Mq:¬b1=w.heap.size+1:=aF
 have Fz:¬b2=w.heap.size+1:=aF
 have FA:¬q=w.heap.size+1:=aF
 have RR:=I (show nG (O.mk x0 x1 x2 x3 x4 x5 x6 x7 x8 x9 F G Z) ⟨13,m,j,t,lo,hi⟩=(⟨da,dw,dx,dy,dz,dA⟩,0) by unfold nG;rw[if_pos aJ];simp only[Int.toNat_natCast];rw[iO (by exact hm)];show (j0 (cr.items x2[m]) j,(0:Int))=_;rw[gF.out];show (j0 cB j,(0:Int))=_;rw[lK vw,od.out];rfl)
 exact afP
theorem Mr (n i:Int) (t:cx) (lo hi:Int) (s:O) (gf:eE s ⟨16,n,i,t,lo,hi⟩=true):IK 46 s ⟨16,n,i,t,lo,hi⟩:=by
 intro S q w hs hv
 obtain⟨x0,x1,x2,x3,x4,x5,x6,x7,x8,x9,F,G,Z⟩:=s
 have js:=I hs
 obtain⟨A0,c0,A1,c1,A2,c2,A3,c3,A6,c6,A7,c7,A8,c8,hq,e0,e1,e2,e3,e4,e5,e6,e7,e8,e9,iE,jc,jd,fj,fm,fa,fb,ew,eL,eK,eV,eX,eY,fp,fq,fc,ff,g4,g5,g10,g11,g12,-,-,kp,-,-,-,-⟩:=cv.j8 hs
 clear hs
 have ga:¬q=w.heap.size:=aF
 have fx:=hv.t
 unfold maxLen at fx
 simp only at fx
 have dX:U w w:=U.refl w
 obtain⟨m,rfl,hm,sw,oQ⟩:=jz gf aF
 have jh:=jr (gg gf) aF
 obtain⟨j,rfl⟩:=Int.eq_ofNat_of_zero_le jh
 have hj:=oQ aF
 clear gf oQ sw jh
 simp only[O.gd]at hm hj
 (obtain⟨b1,o1,cz,cD,cE,cB,cF,l8,iz,jG,jD,gb,dS,gy,gF,kP,eN,fi,eO,ed,iF,fD,fE,fG,fK,fN⟩:=cr.el kp.out m hm dX;subst gb)
 have vw:j<cB.length:=by have:=gF.out;rw[this]at hj;exact Int.ofNat_lt.1 hj
 clear hj
 have oj:=ed.out.1
 have om:=ed.out.2.1
 simp only[ar]at oj
 unfold maxLen at om
 (obtain⟨b2,o2,da,dw,dx,dy,dz,dA,mO,mu,nn,od,vz,kv,kz,kA,iw,kD,kE,jS,jT,jU,jV,jW,j1⟩:=R.el ed.out j vw dX;subst mO)
 have dm:decide ((m:Int)<(x2.length:Int))=true:=aH
 have dj:decide ((j:Int)<(cB.length:Int))=true:=aH
 have iH:¬b1=w.heap.size:=aF
 have oC:¬b2=w.heap.size:=aF
 have Mq:¬b1=w.heap.size+1:=aF
 have Fz:¬b2=w.heap.size+1:=aF
 have FA:¬q=w.heap.size+1:=aF
 have RR:=I (show nG (O.mk x0 x1 x2 x3 x4 x5 x6 x7 x8 x9 F G Z) ⟨16,m,j,t,lo,hi⟩=(⟨da,dw,dx,dy,dz,dA⟩,0) by unfold nG;rw[if_pos aJ];simp only[Int.toNat_natCast];rw[iO (by exact hm)];show (j0 (cr.items x2[m]) j,(0:Int))=_;rw[gF.out];show (j0 cB j,(0:Int))=_;rw[lK vw,od.out];rfl)
 exact afP
theorem Mt (n i:Int) (t:cx) (lo hi:Int) (s:O) (gf:eE s ⟨14,n,i,t,lo,hi⟩=true):IK 46 s ⟨14,n,i,t,lo,hi⟩:=by
 intro S q w hs hv
 obtain⟨x0,x1,x2,x3,x4,x5,x6,x7,x8,x9,F,G,Z⟩:=s
 have js:=I hs
 obtain⟨A0,c0,A1,c1,A2,c2,A3,c3,A6,c6,A7,c7,A8,c8,hq,e0,e1,e2,e3,e4,e5,e6,e7,e8,e9,iE,jc,jd,fj,fm,fa,fb,ew,eL,eK,eV,eX,eY,fp,fq,fc,ff,g4,g5,g10,g11,g12,-,-,-,Gm,-,-,-⟩:=cv.j8 hs
 clear hs
 have ga:¬q=w.heap.size:=aF
 have fx:=hv.t
 unfold maxLen at fx
 simp only at fx
 have dX:U w w:=U.refl w
 have jh:=jr (gg gf) aF
 obtain⟨j,rfl⟩:=Int.eq_ofNat_of_zero_le jh
 have hj:=BF gf
 simp only[O.fy]at hj
 have vw:j<x3.length:=aF
 clear gf jh
 (obtain⟨b2,o2,da,dw,dx,dy,dz,dA,mO,mu,nn,od,vz,kv,kz,kA,iw,kD,kE,jS,jT,jU,jV,jW,j1⟩:=R.el Gm.out j vw dX;subst mO)
 have oC:¬b2=w.heap.size:=aF
 have Fz:¬b2=w.heap.size+1:=aF
 have FA:¬q=w.heap.size+1:=aF
 have RR:=I (show nG (O.mk x0 x1 x2 x3 x4 x5 x6 x7 x8 x9 F G Z) ⟨14,n,j,t,lo,hi⟩=(⟨da,dw,dx,dy,dz,dA⟩,0) by unfold nG;rw[if_neg aJ,if_pos rfl];simp only[Int.toNat_natCast,O.fy];rw[lK vw,od.out];rfl)
 go_enter func46,ntmps46
 go_wp2_with (fail)
 repeat (any_goals (go_quiet (fail);(try go_wp2_with (fail))))
 go_region_held3 (fun w'=>w'.cell? ⟨w.heap.size,2,none⟩=some (.int .i64 (j:Int))/\w'.cell? ⟨q,3,none⟩=some (.slice (some ⟨b2,o2,none⟩) x3.length c3)/\w'.cell? ⟨b2,o2+j*6,none⟩=some (.int .i64 da)/\w'.cell? ⟨b2,o2+j*6+1,none⟩=some (.int .i64 dw)/\w'.cell? ⟨b2,o2+j*6+2,none⟩=some (.int .i64 dx)/\w'.cell? ⟨b2,o2+j*6+3,none⟩=some (.string dy)/\w'.cell? ⟨b2,o2+j*6+4,none⟩=some (.int .i64 dz)/\w'.cell? ⟨b2,o2+j*6+5,none⟩=some (.int .i64 dA)) (first | exact⟨jF,(U.box (W:=w) bl q hq _).trans e3,(U.box (W:=w) bl b2 mu _).trans jS,(U.box (W:=w) bl b2 mu _).trans jT,(U.box (W:=w) bl b2 mu _).trans jU,(U.box (W:=w) bl b2 mu _).trans jV,(U.box (W:=w) bl b2 mu _).trans jW,(U.box (W:=w) bl b2 mu _).trans j1⟩) (fail)
 go_wp2_with (fail)
 repeat (any_goals (go_quiet (fail);(try go_wp2_with (fail))))
 all_goals
  exact Ya
theorem Mu (n i:Int) (t:cx) (lo hi:Int) (s:O) (gf:eE s ⟨15,n,i,t,lo,hi⟩=true):IK 46 s ⟨15,n,i,t,lo,hi⟩:=by
 intro S q w hs hv
 obtain⟨x0,x1,x2,x3,x4,x5,x6,x7,x8,x9,F,G,Z⟩:=s
 have js:=I hs
 obtain⟨A0,c0,A1,c1,A2,c2,A3,c3,A6,c6,A7,c7,A8,c8,hq,e0,e1,e2,e3,e4,e5,e6,e7,e8,e9,iE,jc,jd,fj,fm,fa,fb,ew,eL,eK,eV,eX,eY,fp,fq,fc,ff,g4,g5,g10,g11,g12,-,-,kp,-,-,-,-⟩:=cv.j8 hs
 clear hs
 have ga:¬q=w.heap.size:=aF
 have fx:=hv.t
 unfold maxLen at fx
 simp only at fx
 have dX:U w w:=U.refl w
 obtain⟨m,rfl,hm,sw,oQ⟩:=jz gf aF
 have jh:=jr (gg gf) aF
 obtain⟨j,rfl⟩:=Int.eq_ofNat_of_zero_le jh
 clear gf oQ sw jh
 simp only[O.gd]at hm
 (obtain⟨b1,o1,cz,cD,cE,cB,cF,l8,iz,jG,jD,gb,dS,gy,gF,kP,eN,fi,eO,ed,iF,fD,fE,fG,fK,fN⟩:=cr.el kp.out m hm dX;subst gb)
 have oj:=ed.out.1
 have om:=ed.out.2.1
 simp only[ar]at oj
 unfold maxLen at om
 have lI:=iF.out.1
 have BS:=iF.out.2.1
 simp only[ar]at lI
 unfold maxLen at BS
 have dm:decide ((m:Int)<(x2.length:Int))=true:=aH
 have iH:¬b1=w.heap.size:=aF
 have Mq:¬b1=w.heap.size+1:=aF
 have FA:¬q=w.heap.size+1:=aF
 have RR0:=I (show nG (O.mk x0 x1 x2 x3 x4 x5 x6 x7 x8 x9 F G Z) ⟨15,m,j,t,lo,hi⟩=(if (cB.length:Int)<=(j:Int) then (zeroV,205) else (j0 cB j,0)) by unfold nG;rw[if_neg aJ,if_neg aJ,if_pos rfl];simp only[Int.toNat_natCast];rw[iO (by exact hm)];show (if ((cr.items x2[m]).length:Int)<=(j:Int) then (zeroV,205) else (j0 (cr.items x2[m]) j,(0:Int)))=_;rw[gF.out];rfl)
 by_cases vw:j<cB.length
 ·
  have dj:decide (cB.length<=j)=false:=aH
  have dj2:decide ((cB.length:Int)<=(j:Int))=false:=aH
  (obtain⟨b2,o2,da,dw,dx,dy,dz,dA,mO,mu,nn,od,vz,kv,kz,kA,iw,kD,kE,jS,jT,jU,jV,jW,j1⟩:=R.el ed.out j vw dX;subst mO)
  have oC:¬b2=w.heap.size:=aF
  have Fz:¬b2=w.heap.size+1:=aF
  have RR:=I (show nG (O.mk x0 x1 x2 x3 x4 x5 x6 x7 x8 x9 F G Z) ⟨15,m,j,t,lo,hi⟩=(⟨da,dw,dx,dy,dz,dA⟩,0) by rw[RR0.out,if_neg aF,lK vw,od.out];rfl)
  have aln:¬b1=w.heap.size+1+1:=aF
  have alo:¬b2=w.heap.size+1+1:=aF
  go_enter func46,ntmps46
  go_wp2_with (fail)
  repeat (any_goals (go_quiet (fail);(try go_wp2_with (fail))))
  have FB:b1<w.heap.size:=aF
  have FC:¬b1=w.heap.size:=aF
  have FD:b1<w.heap.size+1:=aF
  have FE:¬b1=w.heap.size+1:=aF
  have FF:b1<w.heap.size+1+1:=aF
  have FG:¬b1=w.heap.size+1+1:=aF
  have FI:b1<w.heap.size+2:=aF
  have Jn:q<w.heap.size:=aF
  have Jo:¬q=w.heap.size:=aF
  have Jp:q<w.heap.size+1:=aF
  have Jq:¬q=w.heap.size+1:=aF
  have Jr:q<w.heap.size+1+1:=aF
  have Js:¬q=w.heap.size+1+1:=aF
  have Jt:q<w.heap.size+2:=aF
  have ai5:b2<w.heap.size:=aF
  have ai6:¬b2=w.heap.size:=aF
  have ai7:b2<w.heap.size+1:=aF
  have ai8:¬b2=w.heap.size+1:=aF
  have ai9:b2<w.heap.size+1+1:=aF
  have aja:¬b2=w.heap.size+1+1:=aF
  have ajb:b2<w.heap.size+2:=aF
  go_region_held3 (fun w'=>w'.cell? ⟨w.heap.size,1,none⟩=some (.int .i64 (m:Int))/\w'.cell? ⟨q,2,none⟩=some (.slice (some ⟨b1,o1,none⟩) x2.length c2)/\w'.cell? ⟨b1,o1+m*5,none⟩=some (.int .i64 cz)/\w'.cell? ⟨b1,o1+m*5+1,none⟩=some (.int .i64 cD)/\w'.cell? ⟨b1,o1+m*5+2,none⟩=some (.int .i64 cE)/\w'.cell? ⟨b1,o1+m*5+3,none⟩=some (.slice (some ⟨b2,o2,none⟩) cB.length iz)/\w'.cell? ⟨b1,o1+m*5+4,none⟩=some (.slice jG cF.length jD)) (first | exact⟨jF,(U.box (W:=w) bl q hq _).trans e2,(U.box (W:=w) bl b1 dS _).trans fD,(U.box (W:=w) bl b1 dS _).trans fE,(U.box (W:=w) bl b1 dS _).trans fG,(U.box (W:=w) bl b1 dS _).trans fK,(U.box (W:=w) bl b1 dS _).trans fN⟩) (fail)
  go_wp2_with (fail)
  repeat (any_goals (go_quiet (fail);(try go_wp2_with (fail))))
  all_goals
   exact Ya
 ·
  have dj:decide (cB.length<=j)=true:=aH
  have dj2:decide ((cB.length:Int)<=(j:Int))=true:=aH
  have RR:=I (show nG (O.mk x0 x1 x2 x3 x4 x5 x6 x7 x8 x9 F G Z) ⟨15,m,j,t,lo,hi⟩=(zeroV,205) by rw[RR0.out,if_pos aF])
  go_enter func46,ntmps46
  go_wp2_with (fail)
  repeat (any_goals (go_quiet (fail);(try go_wp2_with (fail))))
  have FB:b1<w.heap.size:=aF
  have FC:¬b1=w.heap.size:=aF
  have FD:b1<w.heap.size+1:=aF
  have FE:¬b1=w.heap.size+1:=aF
  have FF:b1<w.heap.size+1+1:=aF
  have FG:¬b1=w.heap.size+1+1:=aF
  have FI:b1<w.heap.size+2:=aF
  have Jn:q<w.heap.size:=aF
  have Jo:¬q=w.heap.size:=aF
  have Jp:q<w.heap.size+1:=aF
  have Jq:¬q=w.heap.size+1:=aF
  have Jr:q<w.heap.size+1+1:=aF
  have Js:¬q=w.heap.size+1+1:=aF
  have Jt:q<w.heap.size+2:=aF
  go_region_held3 (fun w'=>w'.cell? ⟨w.heap.size,1,none⟩=some (.int .i64 (m:Int))/\w'.cell? ⟨q,2,none⟩=some (.slice (some ⟨b1,o1,none⟩) x2.length c2)/\w'.cell? ⟨b1,o1+m*5,none⟩=some (.int .i64 cz)/\w'.cell? ⟨b1,o1+m*5+1,none⟩=some (.int .i64 cD)/\w'.cell? ⟨b1,o1+m*5+2,none⟩=some (.int .i64 cE)/\w'.cell? ⟨b1,o1+m*5+3,none⟩=some (.slice l8 cB.length iz)/\w'.cell? ⟨b1,o1+m*5+4,none⟩=some (.slice jG cF.length jD)) (first | exact⟨jF,(U.box (W:=w) bl q hq _).trans e2,(U.box (W:=w) bl b1 dS _).trans fD,(U.box (W:=w) bl b1 dS _).trans fE,(U.box (W:=w) bl b1 dS _).trans fG,(U.box (W:=w) bl b1 dS _).trans fK,(U.box (W:=w) bl b1 dS _).trans fN⟩) (fail)
  go_wp2_with (fail)
  repeat (any_goals (go_quiet (fail);(try go_wp2_with (fail))))
  all_goals
   refine bodyPost_ret (v:=.tuple #[.agg #[.int .i64 0,.int .i64 0,.int .i64 0,.string ByteArray.empty,.int .i64 0,.int .i64 0],.int .i64 205]) (by simp[results,results46,go_sem] <;> rfl) rfl ⟨?_,bl⟩
   rw[RR.out];first | done | rfl
theorem Mv (n i:Int) (t:cx) (lo hi:Int) (s:O) (hval:eP s=true) (gf:eE s ⟨17,n,i,t,lo,hi⟩=true):IK 46 s ⟨17,n,i,t,lo,hi⟩:=by
 intro S q w hs hv
 obtain⟨x0,x1,x2,x3,x4,x5,x6,x7,x8,x9,F,G,Z⟩:=s
 have js:=I hs
 obtain⟨A0,c0,A1,c1,A2,c2,A3,c3,A6,c6,A7,c7,A8,c8,hq,e0,e1,e2,e3,e4,e5,e6,e7,e8,e9,iE,jc,jd,fj,fm,fa,fb,ew,eL,eK,eV,eX,eY,fp,fq,fc,ff,g4,g5,g10,g11,g12,-,-,kp,-,-,-,-⟩:=cv.j8 hs
 clear hs
 have ga:¬q=w.heap.size:=aF
 have fx:=hv.t
 unfold maxLen at fx
 simp only at fx
 have dX:U w w:=U.refl w
 obtain⟨m,rfl,hm,sw,-⟩:=jz gf aF
 rw[lg]at sw
 obtain⟨tag,J,a,b,he,Vd,za,Ju⟩:=tS hval hm sw
 obtain⟨a0,a1,a2,a3,a4,a5⟩:=a
 obtain rfl:a0=5:=Vd
 obtain⟨m2,rfl,qw,xN,-⟩:=jz (k:=5) za aF
 rw[mM]at xN
 obtain⟨nx,ny,its,keys,ht,hlen⟩:=yp hval qw xN
 clear gf sw za Ju xN hval
 simp only[O.gd]at hm qw he ht
 (obtain⟨b1,o1,cz,cD,cE,cB,cF,l8,iz,jG,jD,gb,dS,gy,gF,kP,eN,fi,eO,ed,iF,fD,fE,fG,fK,fN⟩:=cr.el kp.out m hm dX;subst gb)
 obtain⟨rfl,rfl,rfl,rfl,rfl⟩:=cr.mk.inj (he.symm.trans gF.out)
 (obtain⟨b3,o3,j9,gh,iI,iJ,iK,iL,Mw,yN,ve,Qu,OY,Jv,Jw,Jx,FJ,Jy,Jz,Qv,AP,Qw,Qx,Qy,Qz⟩:=R.e0 ed.out aJ dX;subst Mw)
 (obtain⟨b4,o4,iq,fV,iu,iA,iB,iN,Vw,hl4,LH,Yb,HV4,QA,abd,QB,afR,afS,afT,Mx,My,Mz,Vx,Vy,abe⟩:=R.e1 ed.out aJ dX;injection Option.some.inj Vw with qb4 qo4 _;subst qb4 qo4)
 obtain⟨rfl,rfl,rfl,rfl,rfl,rfl⟩:=R.mk.inj (show R.mk 5 m2 a2 a3 a4 a5=.mk j9 gh iI iJ iK iL from Qu.out)
 (obtain⟨b5,o5,Vz,VA,He,VC,VD,MA,De,vo,vp,VE,hl5,OV,VF,HV5,VG,VH,VI,qH,oX,ua,ub,uc,ud,qB⟩:=cr.el kp.out m2 qw dX;injection Option.some.inj VE with VJ VK _;subst VJ VK)
 obtain⟨rfl,rfl,rfl,rfl,rfl⟩:=cr.mk.inj (ht.symm.trans VF.out)
 obtain⟨d,hd,hdl⟩:=Bh keys b.v
 have hdi:d<its.length:=aF
 have oj:=qH.out.1
 have om:=qH.out.2.1
 simp only[ar]at oj
 unfold maxLen at om
 have lI:=oX.out.1
 have BS:=oX.out.2.1
 simp only[ar]at lI
 unfold maxLen at BS
 (obtain⟨b6,o6,JA,JB,JC,JD,JE,JF,hA6,D1,hw6,HX6,HV6,alv,alx,aly,alz,alA,alB,abf,abg,abh,abj,abk,abl⟩:=R.el qH.out d hdi dX;subst hA6)
 obtain rfl:b=.mk iq fV iu iA iB iN:=Yb.out
 have RR:=I (show nG (O.mk x0 x1 x2 x3 x4 x5 x6 x7 x8 x9 F G Z) ⟨17,m,i,t,lo,hi⟩=(⟨JA,JB,JC,JD,JE,JF⟩,0) by
  have q1:kh (O.mk x0 x1 x2 x3 x4 x5 x6 x7 x8 x9 F G Z) (m:Int)=.mk 8 tag J [.mk 5 m2 a2 a3 a4 a5,.mk iq fV iu iA iB iN] []:=(iO (s:=(O.mk x0 x1 x2 x3 x4 x5 x6 x7 x8 x9 F G Z)) hm).trans he
  have q2:kh (O.mk x0 x1 x2 x3 x4 x5 x6 x7 x8 x9 F G Z) (m2:Int)=.mk 3 nx ny its keys:=(iO (s:=(O.mk x0 x1 x2 x3 x4 x5 x6 x7 x8 x9 F G Z)) qw).trans ht
  unfold nG;rw[if_neg aJ,if_neg aJ,if_neg aJ,if_pos rfl]
  simp only[q1,cr.items,cJ,cL,R.Df,q2,cr.keys]
  rw[R.Df]at hd
  rw[hd,Int.toNat_natCast,lK hdi,HX6.out];rfl)
 rw[R.Df]at hd
 obtain⟨dm,Fa⟩:∃dm,lN keys ⟨iq,fV,iu,iA,iB,iN⟩=dm:=⟨_,rfl⟩
 rw[Fa]at hd
 have HD:=I Fa
 have sm:IntKind.i64.wrap (1+dm)=(d:Int):=bs
 have hd0:(0:Int)<=(d:Int):=aF
 have hd1:(d:Int)<(its.length:Int):=aF
 have DG:(0:Int)<=(m:Int):=aF
 have XX:(m:Int)<(x2.length:Int):=aF
 have alE:(0:Int)<=(m2:Int):=aF
 have alF:(m2:Int)<(x2.length:Int):=aF
 clear hd Fa he ht hlen
 have dm1:decide ((m:Int)<(x2.length:Int))=true:=aH
 have dm2:decide ((m2:Int)<(x2.length:Int))=true:=aH
 have FB:b1<w.heap.size:=aF
 have FC:¬b1=w.heap.size:=aF
 have FD:b1<w.heap.size+1:=aF
 have FE:¬b1=w.heap.size+1:=aF
 have FF:b1<w.heap.size+1+1:=aF
 have FG:¬b1=w.heap.size+1+1:=aF
 have FI:b1<w.heap.size+2:=aF
 have VL:b1<w.heap.size+1+1+1:=aF
 have VM:¬b1=w.heap.size+1+1+1:=aF
 have VN:b1<w.heap.size+3:=aF
 have VO:b3<w.heap.size:=aF
 have VP:¬b3=w.heap.size:=aF
 have VQ:b3<w.heap.size+1:=aF
 have VR:¬b3=w.heap.size+1:=aF
 have VS:b3<w.heap.size+1+1:=aF
 have VT:¬b3=w.heap.size+1+1:=aF
 have VU:b3<w.heap.size+2:=aF
 have VV:b3<w.heap.size+1+1+1:=aF
 have VW:¬b3=w.heap.size+1+1+1:=aF
 have VX:b3<w.heap.size+3:=aF
 have VY:b6<w.heap.size:=aF
 have VZ:¬b6=w.heap.size:=aF
 have V0:b6<w.heap.size+1:=aF
 have V1:¬b6=w.heap.size+1:=aF
 have V2:b6<w.heap.size+1+1:=aF
 have V3:¬b6=w.heap.size+1+1:=aF
 have V4:b6<w.heap.size+2:=aF
 have V5:b6<w.heap.size+1+1+1:=aF
 have V7:¬b6=w.heap.size+1+1+1:=aF
 have V8:b6<w.heap.size+3:=aF
 have Jn:q<w.heap.size:=aF
 have Jo:¬q=w.heap.size:=aF
 have Jp:q<w.heap.size+1:=aF
 have Jq:¬q=w.heap.size+1:=aF
 have Jr:q<w.heap.size+1+1:=aF
 have Js:¬q=w.heap.size+1+1:=aF
 have Jt:q<w.heap.size+2:=aF
 have abm:q<w.heap.size+1+1+1:=aF
 have abn:¬q=w.heap.size+1+1+1:=aF
 have abo:q<w.heap.size+3:=aF
 go_enter func46,ntmps46
 go_wp2_with (fail)
 repeat (any_goals (go_quiet (fail);(try go_wp2_with (fail))))
 go_region_held3 (fun w'=>w'.cell? ⟨w.heap.size,1,none⟩=some (.int .i64 (m:Int))/\w'.cell? ⟨q,2,none⟩=some (.slice (some ⟨b1,o1,none⟩) x2.length c2)/\w'.cell? ⟨b1,o1+m*5,none⟩=some (.int .i64 8)/\w'.cell? ⟨b1,o1+m*5+1,none⟩=some (.int .i64 tag)/\w'.cell? ⟨b1,o1+m*5+2,none⟩=some (.int .i64 J)/\w'.cell? ⟨b1,o1+m*5+3,none⟩=some (.slice (some ⟨b3,o3,none⟩) 2 iz)/\w'.cell? ⟨b1,o1+m*5+4,none⟩=some (.slice jG 0 jD)) (first | exact⟨jF,(U.box (W:=w) bl q hq _).trans e2,(U.box (W:=w) bl b1 dS _).trans fD,(U.box (W:=w) bl b1 dS _).trans fE,(U.box (W:=w) bl b1 dS _).trans fG,(U.box (W:=w) bl b1 dS _).trans fK,(U.box (W:=w) bl b1 dS _).trans fN⟩) (fail)
 go_wp2_with (fail)
 repeat (any_goals (go_quiet (fail);(try go_wp2_with (fail))))
 go_region_held3 (fun w'=>w'.cell? ⟨q,2,none⟩=some (.slice (some ⟨b1,o1,none⟩) x2.length c2)/\w'.cell? ⟨w.heap.size+1+1,3,none⟩=some (.slice (some ⟨b3,o3,none⟩) 2 iz)/\w'.cell? ⟨b3,o3+1,none⟩=some (.int .i64 (m2:Int))/\w'.cell? ⟨b1,o1+m2*5,none⟩=some (.int .i64 3)/\w'.cell? ⟨b1,o1+m2*5+1,none⟩=some (.int .i64 nx)/\w'.cell? ⟨b1,o1+m2*5+2,none⟩=some (.int .i64 ny)/\w'.cell? ⟨b1,o1+m2*5+3,none⟩=some (.slice (some ⟨b6,o6,none⟩) its.length De)/\w'.cell? ⟨b1,o1+m2*5+4,none⟩=some (.slice vo keys.length vp)) (first | exact⟨(U.box (W:=w) bl q hq _).trans e2,jF,(U.box (W:=w) bl b3 yN _).trans AP,(U.box (W:=w) bl b1 dS _).trans ua,(U.box (W:=w) bl b1 dS _).trans ub,(U.box (W:=w) bl b1 dS _).trans uc,(U.box (W:=w) bl b1 dS _).trans ud,(U.box (W:=w) bl b1 dS _).trans qB⟩) (fail)
 go_wp2_with (fail)
 repeat (any_goals (go_quiet (fail);(try go_wp2_with (fail))))
 go_region_held3 (fun w'=>w'.cell? ⟨w.heap.size+1+1+1,0,none⟩=some (.int .i64 3)/\w'.cell? ⟨w.heap.size+1+1+1,1,none⟩=some (.int .i64 nx)/\w'.cell? ⟨w.heap.size+1+1+1,2,none⟩=some (.int .i64 ny)/\w'.cell? ⟨w.heap.size+1+1+1,3,none⟩=some (.slice (some ⟨b6,o6,none⟩) its.length De)/\w'.cell? ⟨w.heap.size+1+1+1,4,none⟩=some (.slice vo keys.length vp)/\w'.cell? ⟨w.heap.size+1+1,3,none⟩=some (.slice (some ⟨b3,o3,none⟩) 2 iz)/\w'.cell? ⟨b3,o3+6,none⟩=some (.int .i64 iq)/\w'.cell? ⟨b3,o3+7,none⟩=some (.int .i64 fV)/\w'.cell? ⟨b3,o3+8,none⟩=some (.int .i64 iu)/\w'.cell? ⟨b3,o3+9,none⟩=some (.string iA)/\w'.cell? ⟨b3,o3+10,none⟩=some (.int .i64 iB)/\w'.cell? ⟨b3,o3+11,none⟩=some (.int .i64 iN)/\w'.cell? ⟨b6,o6+d*6,none⟩=some (.int .i64 JA)/\w'.cell? ⟨b6,o6+d*6+1,none⟩=some (.int .i64 JB)/\w'.cell? ⟨b6,o6+d*6+2,none⟩=some (.int .i64 JC)/\w'.cell? ⟨b6,o6+d*6+3,none⟩=some (.string JD)/\w'.cell? ⟨b6,o6+d*6+4,none⟩=some (.int .i64 JE)/\w'.cell? ⟨b6,o6+d*6+5,none⟩=some (.int .i64 JF)) (first | exact⟨jF,jF,jF,jF,jF,jF,(U.box (W:=w) bl b3 yN _).trans Mx,(U.box (W:=w) bl b3 yN _).trans My,(U.box (W:=w) bl b3 yN _).trans Mz,(U.box (W:=w) bl b3 yN _).trans Vx,(U.box (W:=w) bl b3 yN _).trans Vy,(U.box (W:=w) bl b3 yN _).trans abe,(U.box (W:=w) bl b6 D1 _).trans abf,(U.box (W:=w) bl b6 D1 _).trans abg,(U.box (W:=w) bl b6 D1 _).trans abh,(U.box (W:=w) bl b6 D1 _).trans abj,(U.box (W:=w) bl b6 D1 _).trans abk,(U.box (W:=w) bl b6 D1 _).trans abl⟩) (first | (go_at_call 79;(with_reducible refine (KH 3 nx ny its keys ⟨iq,fV,iu,iA,iB,iN⟩ S _ _ _ _ _ (Row.de bl oX.out) ⟨QA,abd,QB,afR,afS,afT⟩).mono ?_);rintro e wk ⟨rfl,yq⟩;rw[HD.out];(have hzk:=yq.sz;obtain⟨QC,QD,afV,afW⟩:=yq.lay (w.heap.size);obtain⟨si,BU,QE,afX⟩:=yq.lay (w.heap.size+1);obtain⟨QF,QG,afY,afZ⟩:=yq.lay (w.heap.size+1+1);obtain⟨QH,QI,af1,af2⟩:=yq.lay (w.heap.size+1+1+1);obtain⟨af4,af5,af6,af7⟩:=yq.lay (q);obtain⟨af8,af9,aga,agb⟩:=yq.lay (b1);obtain⟨agc,agd,age,agf⟩:=yq.lay (b3);obtain⟨agh,agi,agj,agk⟩:=yq.lay (b6))))
 (go_wp2_with (fail))
 all_goals
  have HZ6:Z6 wk (w.heap.size+1):=⟨aP,aP,aP,(by first | (simp[si];done) | (simp[si];rfl) | (simp[go_sem,si];done) | (simp[go_sem,si];rfl) | (simp[go_sem, * ];done) | (simp[go_sem, * ];rfl)),aP,aP,(fun o=>by first | (simp[BU];done) | (simp[go_sem,BU];done) | (simp[go_sem, * ];done)),QE⟩
  have hBw:U w wk:=bl
  refine po HZ6 fun wz d0 d1 d2 d3 d4 d5 sS=>?_
  clear QC si QF QH QD BU QG QI
  refine bodyPost_ret (v:=.tuple #[.agg #[.int .i64 JA,.int .i64 JB,.int .i64 JC,.string JD,.int .i64 JE,.int .i64 JF],.int .i64 0]) (by simp[results,results46,go_sem,d0,d1,d2,d3,d4,d5] <;> rfl) rfl ⟨?_,sS _ hBw aF⟩
  rw[RR.out];first | done | rfl
theorem MB (n i:Int) (t:cx) (lo hi:Int) (s:O):IK 46 s ⟨18,n,i,t,lo,hi⟩:=by
 intro S q w hs hv
 obtain⟨x0,x1,x2,x3,x4,x5,x6,x7,x8,x9,F,G,Z⟩:=s
 have js:=I hs
 obtain⟨A0,c0,A1,c1,A2,c2,A3,c3,A6,c6,A7,c7,A8,c8,hq,e0,e1,e2,e3,e4,e5,e6,e7,e8,e9,iE,jc,jd,fj,fm,fa,fb,ew,eL,eK,eV,eX,eY,fp,fq,fc,ff,g4,g5,g10,g11,g12,-,-,-,-,-,-,-⟩:=cv.j8 hs
 clear hs
 have ga:¬q=w.heap.size:=aF
 have fx:=hv.t
 unfold maxLen at fx
 simp only at fx
 have dX:U w w:=U.refl w
 have FA:¬q=w.heap.size+1:=aF
 by_cases h1:i=1
 ·
  subst h1
  have RR:=I (show nG (O.mk x0 x1 x2 x3 x4 x5 x6 x7 x8 x9 F G Z) ⟨18,n,1,t,lo,hi⟩=(⟨2,0,0,x4,0,0⟩,0) by unfold nG;rw[if_neg aJ,if_neg aJ,if_neg aJ,if_neg aJ,if_pos rfl,if_pos rfl];rfl)
  go_enter func46,ntmps46
  have eF:=True.intro
  repeat (any_goals ((first | clear eF | go_quiet (fail));(try go_wp2_with (go_at_call 77;refine (Fy _ _).mono ?_;rintro e w1 ⟨rfl,dE⟩;(have jZ:=dE.sz;obtain⟨fA,fJ,fI,fP⟩:=dE.lay (w.heap.size);obtain⟨fX,fY,gi,gj⟩:=dE.lay (w.heap.size+1);obtain⟨my,mz,mA,mB⟩:=dE.lay (q))))))
  all_goals
   refine bodyPost_ret (v:=.tuple #[.agg #[.int .i64 2,.int .i64 0,.int .i64 0,.string x4,.int .i64 0,.int .i64 0],.int .i64 0]) (by simp[results,results46,go_sem,fA,fJ,fX,fY] <;> rfl) rfl ⟨?_,bl⟩
   rw[RR.out];first | done | rfl
 ·
  have f1:(i==1)=false:=aV
  have RR:=I (show nG (O.mk x0 x1 x2 x3 x4 x5 x6 x7 x8 x9 F G Z) ⟨18,n,i,t,lo,hi⟩=(⟨1,x5,0,ByteArray.empty,0,0⟩,0) by unfold nG;rw[if_neg aJ,if_neg aJ,if_neg aJ,if_neg aJ,if_pos rfl,if_neg h1];rfl)
  go_enter func46,ntmps46
  have eF:=True.intro
  repeat (any_goals ((first | clear eF | go_quiet (fail));(try go_wp2_with (go_at_call 73;refine (Hd _ _).mono ?_;rintro e w1 ⟨rfl,dE⟩;(have jZ:=dE.sz;obtain⟨fA,fJ,fI,fP⟩:=dE.lay (w.heap.size);obtain⟨fX,fY,gi,gj⟩:=dE.lay (w.heap.size+1);obtain⟨my,mz,mA,mB⟩:=dE.lay (q))))))
  all_goals
   refine bodyPost_ret (v:=.tuple #[.agg #[.int .i64 1,.int .i64 x5,.int .i64 0,.string ByteArray.empty,.int .i64 0,.int .i64 0],.int .i64 0]) (by simp[results,results46,go_sem,fA,fJ,fX,fY] <;> rfl) rfl ⟨?_,bl⟩
   rw[RR.out];first | done | rfl
theorem JG (k:Int) (hk:k<13) (n i:Int) (t:cx) (lo hi:Int) (s:O):IK 46 s ⟨k,n,i,t,lo,hi⟩:=by
 intro S q w hs hv
 obtain⟨x0,x1,x2,x3,x4,x5,x6,x7,x8,x9,F,G,Z⟩:=s
 have js:=I hs
 obtain⟨A0,c0,A1,c1,A2,c2,A3,c3,A6,c6,A7,c7,A8,c8,hq,e0,e1,e2,e3,e4,e5,e6,e7,e8,e9,iE,jc,jd,fj,fm,fa,fb,ew,eL,eK,eV,eX,eY,fp,fq,fc,ff,g4,g5,g10,g11,g12,-,-,-,-,-,-,-⟩:=cv.j8 hs
 clear hs
 have ga:¬q=w.heap.size:=aF
 have fx:=hv.t
 unfold maxLen at fx
 simp only at fx
 have dX:U w w:=U.refl w
 have RR:=I (show nG (O.mk x0 x1 x2 x3 x4 x5 x6 x7 x8 x9 F G Z) ⟨k,n,i,t,lo,hi⟩=(⟨k,n,i,t,lo,hi⟩,0) by unfold nG;rw[if_neg aH,if_neg aH,if_neg aH,if_neg aH,if_neg aH])
 have alK:(k==13)=false:=aH
 have alL:(k==14)=false:=aH
 have alM:(k==15)=false:=aH
 have alN:(k==16)=false:=aH
 have alO:(k==17)=false:=aH
 have alP:(k==18)=false:=aH
 go_enter func46,ntmps46
 go_wp2_with (fail)
 repeat (any_goals (go_quiet (fail);(try go_wp2_with (fail))))
 all_goals
  refine bodyPost_ret (v:=.tuple #[.agg #[.int .i64 k,.int .i64 n,.int .i64 i,.string t,.int .i64 lo,.int .i64 hi],.int .i64 0]) (by simp[results,results46,go_sem] <;> rfl) rfl ⟨?_,bl⟩
  rw[RR.out];first | done | rfl
theorem JH (s:O) (v:cC) (hval:eP s=true) (gf:eE s v=true) (hk:v.k<=18):IK 46 s v:=by
 obtain⟨k,n,i,t,lo,hi⟩:=v
 simp only at hk
 by_cases GK:k=13
 ·
  subst GK;exact Mp n i t lo hi s gf
 by_cases II:k=14
 ·
  subst II;exact Mt n i t lo hi s gf
 by_cases Ve:k=15
 ·
  subst Ve;exact Mu n i t lo hi s gf
 by_cases h16:k=16
 ·
  subst h16;exact Mr n i t lo hi s gf
 by_cases h17:k=17
 ·
  subst h17;exact Mv n i t lo hi s hval gf
 by_cases h18:k=18
 ·
  subst h18;exact MB n i t lo hi s
 exact JG k aF n i t lo hi s
--%quiet
theorem MC (n i:Int) (t:cx) (lo hi:Int) (s:O) (gf:eE s ⟨13,n,i,t,lo,hi⟩=true):IK 36 s ⟨13,n,i,t,lo,hi⟩:=by
 intro S q w hs hv
 obtain⟨x0,x1,x2,x3,x4,x5,x6,x7,x8,x9,F,G,Z⟩:=s
 have js:=I hs
 obtain⟨A0,c0,A1,c1,A2,c2,A3,c3,A6,c6,A7,c7,A8,c8,hq,e0,e1,e2,e3,e4,e5,e6,e7,e8,e9,iE,jc,jd,fj,fm,fa,fb,ew,eL,eK,eV,eX,eY,fp,fq,fc,ff,g4,g5,g10,g11,g12,-,-,kp,-,-,-,-⟩:=cv.j8 hs
 clear hs
 have ga:¬q=w.heap.size:=aF
 have fx:=hv.t
 unfold maxLen at fx
 simp only at fx
 have dX:U w w:=U.refl w
 obtain⟨m,rfl,hm,sw,oQ⟩:=jz gf aF
 have jh:=jr (gg gf) aF
 obtain⟨j,rfl⟩:=Int.eq_ofNat_of_zero_le jh
 have hj:=oQ aF
 clear gf oQ sw jh
 simp only[O.gd]at hm hj
 (obtain⟨b1,o1,cz,cD,cE,cB,cF,l8,iz,jG,jD,gb,dS,gy,gF,kP,eN,fi,eO,ed,iF,fD,fE,fG,fK,fN⟩:=cr.el kp.out m hm dX;subst gb)
 have vw:j<cB.length:=by have:=gF.out;rw[this]at hj;exact Int.ofNat_lt.1 hj
 clear hj
 have oj:=ed.out.1
 have om:=ed.out.2.1
 simp only[ar]at oj
 unfold maxLen at om
 (obtain⟨b2,o2,da,dw,dx,dy,dz,dA,mO,mu,nn,od,vz,kv,kz,kA,iw,kD,kE,jS,jT,jU,jV,jW,j1⟩:=R.el ed.out j vw dX;subst mO)
 have dm:decide ((m:Int)<(x2.length:Int))=true:=aH
 have dj:decide ((j:Int)<(cB.length:Int))=true:=aH
 have iH:¬b1=w.heap.size:=aF
 have oC:¬b2=w.heap.size:=aF
 have Mq:¬b1=w.heap.size+1:=aF
 have Fz:¬b2=w.heap.size+1:=aF
 have FA:¬q=w.heap.size+1:=aF
 have RR:=I (show nG (O.mk x0 x1 x2 x3 x4 x5 x6 x7 x8 x9 F G Z) ⟨13,m,j,t,lo,hi⟩=(⟨da,dw,dx,dy,dz,dA⟩,0) by unfold nG;rw[if_pos aJ];simp only[Int.toNat_natCast];rw[iO (by exact hm)];show (j0 (cr.items x2[m]) j,(0:Int))=_;rw[gF.out];show (j0 cB j,(0:Int))=_;rw[lK vw,od.out];rfl)
 exact abp
theorem MD (n i:Int) (t:cx) (lo hi:Int) (s:O) (gf:eE s ⟨16,n,i,t,lo,hi⟩=true):IK 36 s ⟨16,n,i,t,lo,hi⟩:=by
 intro S q w hs hv
 obtain⟨x0,x1,x2,x3,x4,x5,x6,x7,x8,x9,F,G,Z⟩:=s
 have js:=I hs
 obtain⟨A0,c0,A1,c1,A2,c2,A3,c3,A6,c6,A7,c7,A8,c8,hq,e0,e1,e2,e3,e4,e5,e6,e7,e8,e9,iE,jc,jd,fj,fm,fa,fb,ew,eL,eK,eV,eX,eY,fp,fq,fc,ff,g4,g5,g10,g11,g12,-,-,kp,-,-,-,-⟩:=cv.j8 hs
 clear hs
 have ga:¬q=w.heap.size:=aF
 have fx:=hv.t
 unfold maxLen at fx
 simp only at fx
 have dX:U w w:=U.refl w
 obtain⟨m,rfl,hm,sw,oQ⟩:=jz gf aF
 have jh:=jr (gg gf) aF
 obtain⟨j,rfl⟩:=Int.eq_ofNat_of_zero_le jh
 have hj:=oQ aF
 clear gf oQ sw jh
 simp only[O.gd]at hm hj
 (obtain⟨b1,o1,cz,cD,cE,cB,cF,l8,iz,jG,jD,gb,dS,gy,gF,kP,eN,fi,eO,ed,iF,fD,fE,fG,fK,fN⟩:=cr.el kp.out m hm dX;subst gb)
 have vw:j<cB.length:=by have:=gF.out;rw[this]at hj;exact Int.ofNat_lt.1 hj
 clear hj
 have oj:=ed.out.1
 have om:=ed.out.2.1
 simp only[ar]at oj
 unfold maxLen at om
 (obtain⟨b2,o2,da,dw,dx,dy,dz,dA,mO,mu,nn,od,vz,kv,kz,kA,iw,kD,kE,jS,jT,jU,jV,jW,j1⟩:=R.el ed.out j vw dX;subst mO)
 have dm:decide ((m:Int)<(x2.length:Int))=true:=aH
 have dj:decide ((j:Int)<(cB.length:Int))=true:=aH
 have iH:¬b1=w.heap.size:=aF
 have oC:¬b2=w.heap.size:=aF
 have Mq:¬b1=w.heap.size+1:=aF
 have Fz:¬b2=w.heap.size+1:=aF
 have FA:¬q=w.heap.size+1:=aF
 have RR:=I (show nG (O.mk x0 x1 x2 x3 x4 x5 x6 x7 x8 x9 F G Z) ⟨16,m,j,t,lo,hi⟩=(⟨da,dw,dx,dy,dz,dA⟩,0) by unfold nG;rw[if_pos aJ];simp only[Int.toNat_natCast];rw[iO (by exact hm)];show (j0 (cr.items x2[m]) j,(0:Int))=_;rw[gF.out];show (j0 cB j,(0:Int))=_;rw[lK vw,od.out];rfl)
 exact abp
theorem ME (n i:Int) (t:cx) (lo hi:Int) (s:O) (gf:eE s ⟨14,n,i,t,lo,hi⟩=true):IK 36 s ⟨14,n,i,t,lo,hi⟩:=by
 intro S q w hs hv
 obtain⟨x0,x1,x2,x3,x4,x5,x6,x7,x8,x9,F,G,Z⟩:=s
 have js:=I hs
 obtain⟨A0,c0,A1,c1,A2,c2,A3,c3,A6,c6,A7,c7,A8,c8,hq,e0,e1,e2,e3,e4,e5,e6,e7,e8,e9,iE,jc,jd,fj,fm,fa,fb,ew,eL,eK,eV,eX,eY,fp,fq,fc,ff,g4,g5,g10,g11,g12,-,-,-,Gm,-,-,-⟩:=cv.j8 hs
 clear hs
 have ga:¬q=w.heap.size:=aF
 have fx:=hv.t
 unfold maxLen at fx
 simp only at fx
 have dX:U w w:=U.refl w
 have jh:=jr (gg gf) aF
 obtain⟨j,rfl⟩:=Int.eq_ofNat_of_zero_le jh
 have hj:=BF gf
 simp only[O.fy]at hj
 have vw:j<x3.length:=aF
 clear gf jh
 (obtain⟨b2,o2,da,dw,dx,dy,dz,dA,mO,mu,nn,od,vz,kv,kz,kA,iw,kD,kE,jS,jT,jU,jV,jW,j1⟩:=R.el Gm.out j vw dX;subst mO)
 have oC:¬b2=w.heap.size:=aF
 have Fz:¬b2=w.heap.size+1:=aF
 have FA:¬q=w.heap.size+1:=aF
 have RR:=I (show nG (O.mk x0 x1 x2 x3 x4 x5 x6 x7 x8 x9 F G Z) ⟨14,n,j,t,lo,hi⟩=(⟨da,dw,dx,dy,dz,dA⟩,0) by unfold nG;rw[if_neg aJ,if_pos rfl];simp only[Int.toNat_natCast,O.fy];rw[lK vw,od.out];rfl)
 go_enter func36,ntmps36
 go_wp2_with (fail)
 repeat (any_goals (go_quiet (fail);(try go_wp2_with (fail))))
 go_region_held3 (fun w'=>w'.cell? ⟨w.heap.size,2,none⟩=some (.int .i64 (j:Int))/\w'.cell? ⟨q,3,none⟩=some (.slice (some ⟨b2,o2,none⟩) x3.length c3)/\w'.cell? ⟨b2,o2+j*6,none⟩=some (.int .i64 da)/\w'.cell? ⟨b2,o2+j*6+1,none⟩=some (.int .i64 dw)/\w'.cell? ⟨b2,o2+j*6+2,none⟩=some (.int .i64 dx)/\w'.cell? ⟨b2,o2+j*6+3,none⟩=some (.string dy)/\w'.cell? ⟨b2,o2+j*6+4,none⟩=some (.int .i64 dz)/\w'.cell? ⟨b2,o2+j*6+5,none⟩=some (.int .i64 dA)) (first | exact⟨jF,(U.box (W:=w) bl q hq _).trans e3,(U.box (W:=w) bl b2 mu _).trans jS,(U.box (W:=w) bl b2 mu _).trans jT,(U.box (W:=w) bl b2 mu _).trans jU,(U.box (W:=w) bl b2 mu _).trans jV,(U.box (W:=w) bl b2 mu _).trans jW,(U.box (W:=w) bl b2 mu _).trans j1⟩) (fail)
 go_wp2_with (fail)
 repeat (any_goals (go_quiet (fail);(try go_wp2_with (fail))))
 all_goals
  refine bodyPost_ret (v:=.tuple #[.agg #[.int .i64 da,.int .i64 dw,.int .i64 dx,.string dy,.int .i64 dz,.int .i64 dA],.int .i64 0]) bF rfl ⟨?_,bl⟩
  rw[RR.out];first | done | rfl
theorem MF (n i:Int) (t:cx) (lo hi:Int) (s:O) (gf:eE s ⟨15,n,i,t,lo,hi⟩=true):IK 36 s ⟨15,n,i,t,lo,hi⟩:=by
 intro S q w hs hv
 obtain⟨x0,x1,x2,x3,x4,x5,x6,x7,x8,x9,F,G,Z⟩:=s
 have js:=I hs
 obtain⟨A0,c0,A1,c1,A2,c2,A3,c3,A6,c6,A7,c7,A8,c8,hq,e0,e1,e2,e3,e4,e5,e6,e7,e8,e9,iE,jc,jd,fj,fm,fa,fb,ew,eL,eK,eV,eX,eY,fp,fq,fc,ff,g4,g5,g10,g11,g12,-,-,kp,-,-,-,-⟩:=cv.j8 hs
 clear hs
 have ga:¬q=w.heap.size:=aF
 have fx:=hv.t
 unfold maxLen at fx
 simp only at fx
 have dX:U w w:=U.refl w
 obtain⟨m,rfl,hm,sw,oQ⟩:=jz gf aF
 have jh:=jr (gg gf) aF
 obtain⟨j,rfl⟩:=Int.eq_ofNat_of_zero_le jh
 clear gf oQ sw jh
 simp only[O.gd]at hm
 (obtain⟨b1,o1,cz,cD,cE,cB,cF,l8,iz,jG,jD,gb,dS,gy,gF,kP,eN,fi,eO,ed,iF,fD,fE,fG,fK,fN⟩:=cr.el kp.out m hm dX;subst gb)
 have oj:=ed.out.1
 have om:=ed.out.2.1
 simp only[ar]at oj
 unfold maxLen at om
 have lI:=iF.out.1
 have BS:=iF.out.2.1
 simp only[ar]at lI
 unfold maxLen at BS
 have dm:decide ((m:Int)<(x2.length:Int))=true:=aH
 have iH:¬b1=w.heap.size:=aF
 have Mq:¬b1=w.heap.size+1:=aF
 have FA:¬q=w.heap.size+1:=aF
 have RR0:=I (show nG (O.mk x0 x1 x2 x3 x4 x5 x6 x7 x8 x9 F G Z) ⟨15,m,j,t,lo,hi⟩=(if (cB.length:Int)<=(j:Int) then (zeroV,205) else (j0 cB j,0)) by unfold nG;rw[if_neg aJ,if_neg aJ,if_pos rfl];simp only[Int.toNat_natCast];rw[iO (by exact hm)];show (if ((cr.items x2[m]).length:Int)<=(j:Int) then (zeroV,205) else (j0 (cr.items x2[m]) j,(0:Int)))=_;rw[gF.out];rfl)
 by_cases vw:j<cB.length
 ·
  have dj:decide (cB.length<=j)=false:=aH
  have dj2:decide ((cB.length:Int)<=(j:Int))=false:=aH
  (obtain⟨b2,o2,da,dw,dx,dy,dz,dA,mO,mu,nn,od,vz,kv,kz,kA,iw,kD,kE,jS,jT,jU,jV,jW,j1⟩:=R.el ed.out j vw dX;subst mO)
  have oC:¬b2=w.heap.size:=aF
  have Fz:¬b2=w.heap.size+1:=aF
  have RR:=I (show nG (O.mk x0 x1 x2 x3 x4 x5 x6 x7 x8 x9 F G Z) ⟨15,m,j,t,lo,hi⟩=(⟨da,dw,dx,dy,dz,dA⟩,0) by rw[RR0.out,if_neg aF,lK vw,od.out];rfl)
  have aln:¬b1=w.heap.size+1+1:=aF
  have alo:¬b2=w.heap.size+1+1:=aF
  exact abp
 ·
  have dj:decide (cB.length<=j)=true:=aH
  have dj2:decide ((cB.length:Int)<=(j:Int))=true:=aH
  have RR:=I (show nG (O.mk x0 x1 x2 x3 x4 x5 x6 x7 x8 x9 F G Z) ⟨15,m,j,t,lo,hi⟩=(zeroV,205) by rw[RR0.out,if_pos aF])
  go_enter func36,ntmps36
  go_wp2_with (fail)
  repeat (any_goals (go_quiet (fail);(try go_wp2_with (fail))))
  all_goals
   refine bodyPost_ret (v:=.tuple #[.agg #[.int .i64 0,.int .i64 0,.int .i64 0,.string ByteArray.empty,.int .i64 0,.int .i64 0],.int .i64 205]) bF rfl ⟨?_,bl⟩
   rw[RR.out];first | done | rfl
theorem MG (n i:Int) (t:cx) (lo hi:Int) (s:O) (hval:eP s=true) (gf:eE s ⟨17,n,i,t,lo,hi⟩=true):IK 36 s ⟨17,n,i,t,lo,hi⟩:=by
 intro S q w hs hv
 obtain⟨x0,x1,x2,x3,x4,x5,x6,x7,x8,x9,F,G,Z⟩:=s
 have js:=I hs
 obtain⟨A0,c0,A1,c1,A2,c2,A3,c3,A6,c6,A7,c7,A8,c8,hq,e0,e1,e2,e3,e4,e5,e6,e7,e8,e9,iE,jc,jd,fj,fm,fa,fb,ew,eL,eK,eV,eX,eY,fp,fq,fc,ff,g4,g5,g10,g11,g12,-,-,kp,-,-,-,-⟩:=cv.j8 hs
 clear hs
 have ga:¬q=w.heap.size:=aF
 have fx:=hv.t
 unfold maxLen at fx
 simp only at fx
 have dX:U w w:=U.refl w
 obtain⟨m,rfl,hm,sw,-⟩:=jz gf aF
 rw[lg]at sw
 obtain⟨tag,J,a,b,he,Vd,za,Ju⟩:=tS hval hm sw
 obtain⟨a0,a1,a2,a3,a4,a5⟩:=a
 obtain rfl:a0=5:=Vd
 obtain⟨m2,rfl,qw,xN,-⟩:=jz (k:=5) za aF
 rw[mM]at xN
 obtain⟨nx,ny,its,keys,ht,hlen⟩:=yp hval qw xN
 clear gf sw za Ju xN hval
 simp only[O.gd]at hm qw he ht
 (obtain⟨b1,o1,cz,cD,cE,cB,cF,l8,iz,jG,jD,gb,dS,gy,gF,kP,eN,fi,eO,ed,iF,fD,fE,fG,fK,fN⟩:=cr.el kp.out m hm dX;subst gb)
 obtain⟨rfl,rfl,rfl,rfl,rfl⟩:=cr.mk.inj (he.symm.trans gF.out)
 (obtain⟨b3,o3,j9,gh,iI,iJ,iK,iL,Mw,yN,ve,Qu,OY,Jv,Jw,Jx,FJ,Jy,Jz,Qv,AP,Qw,Qx,Qy,Qz⟩:=R.e0 ed.out aJ dX;subst Mw)
 (obtain⟨b4,o4,iq,fV,iu,iA,iB,iN,Vw,hl4,LH,Yb,HV4,QA,abd,QB,afR,afS,afT,Mx,My,Mz,Vx,Vy,abe⟩:=R.e1 ed.out aJ dX;injection Option.some.inj Vw with qb4 qo4 _;subst qb4 qo4)
 obtain⟨rfl,rfl,rfl,rfl,rfl,rfl⟩:=R.mk.inj (show R.mk 5 m2 a2 a3 a4 a5=.mk j9 gh iI iJ iK iL from Qu.out)
 (obtain⟨b5,o5,Vz,VA,He,VC,VD,MA,De,vo,vp,VE,hl5,OV,VF,HV5,VG,VH,VI,qH,oX,ua,ub,uc,ud,qB⟩:=cr.el kp.out m2 qw dX;injection Option.some.inj VE with VJ VK _;subst VJ VK)
 obtain⟨rfl,rfl,rfl,rfl,rfl⟩:=cr.mk.inj (ht.symm.trans VF.out)
 obtain⟨d,hd,hdl⟩:=Bh keys b.v
 have hdi:d<its.length:=aF
 have oj:=qH.out.1
 have om:=qH.out.2.1
 simp only[ar]at oj
 unfold maxLen at om
 have lI:=oX.out.1
 have BS:=oX.out.2.1
 simp only[ar]at lI
 unfold maxLen at BS
 (obtain⟨b6,o6,JA,JB,JC,JD,JE,JF,hA6,D1,hw6,HX6,HV6,alv,alx,aly,alz,alA,alB,abf,abg,abh,abj,abk,abl⟩:=R.el qH.out d hdi dX;subst hA6)
 obtain rfl:b=.mk iq fV iu iA iB iN:=Yb.out
 have RR:=I (show nG (O.mk x0 x1 x2 x3 x4 x5 x6 x7 x8 x9 F G Z) ⟨17,m,i,t,lo,hi⟩=(⟨JA,JB,JC,JD,JE,JF⟩,0) by
  have q1:kh (O.mk x0 x1 x2 x3 x4 x5 x6 x7 x8 x9 F G Z) (m:Int)=.mk 8 tag J [.mk 5 m2 a2 a3 a4 a5,.mk iq fV iu iA iB iN] []:=(iO (s:=(O.mk x0 x1 x2 x3 x4 x5 x6 x7 x8 x9 F G Z)) hm).trans he
  have q2:kh (O.mk x0 x1 x2 x3 x4 x5 x6 x7 x8 x9 F G Z) (m2:Int)=.mk 3 nx ny its keys:=(iO (s:=(O.mk x0 x1 x2 x3 x4 x5 x6 x7 x8 x9 F G Z)) qw).trans ht
  unfold nG;rw[if_neg aJ,if_neg aJ,if_neg aJ,if_pos rfl]
  simp only[q1,cr.items,cJ,cL,R.Df,q2,cr.keys]
  rw[R.Df]at hd
  rw[hd,Int.toNat_natCast,lK hdi,HX6.out];rfl)
 rw[R.Df]at hd
 obtain⟨dm,Fa⟩:∃dm,lN keys ⟨iq,fV,iu,iA,iB,iN⟩=dm:=⟨_,rfl⟩
 rw[Fa]at hd
 have HD:=I Fa
 have sm:IntKind.i64.wrap (1+dm)=(d:Int):=bs
 have hd0:(0:Int)<=(d:Int):=aF
 have hd1:(d:Int)<(its.length:Int):=aF
 have DG:(0:Int)<=(m:Int):=aF
 have XX:(m:Int)<(x2.length:Int):=aF
 have alE:(0:Int)<=(m2:Int):=aF
 have alF:(m2:Int)<(x2.length:Int):=aF
 clear hd Fa he ht hlen
 have dm1:decide ((m:Int)<(x2.length:Int))=true:=aH
 have dm2:decide ((m2:Int)<(x2.length:Int))=true:=aH
 have FB:b1<w.heap.size:=aF
 have FC:¬b1=w.heap.size:=aF
 have FD:b1<w.heap.size+1:=aF
 have FE:¬b1=w.heap.size+1:=aF
 have FF:b1<w.heap.size+1+1:=aF
 have FG:¬b1=w.heap.size+1+1:=aF
 have FI:b1<w.heap.size+2:=aF
 have VL:b1<w.heap.size+1+1+1:=aF
 have VM:¬b1=w.heap.size+1+1+1:=aF
 have VN:b1<w.heap.size+3:=aF
 have VO:b3<w.heap.size:=aF
 have VP:¬b3=w.heap.size:=aF
 have VQ:b3<w.heap.size+1:=aF
 have VR:¬b3=w.heap.size+1:=aF
 have VS:b3<w.heap.size+1+1:=aF
 have VT:¬b3=w.heap.size+1+1:=aF
 have VU:b3<w.heap.size+2:=aF
 have VV:b3<w.heap.size+1+1+1:=aF
 have VW:¬b3=w.heap.size+1+1+1:=aF
 have VX:b3<w.heap.size+3:=aF
 have VY:b6<w.heap.size:=aF
 have VZ:¬b6=w.heap.size:=aF
 have V0:b6<w.heap.size+1:=aF
 have V1:¬b6=w.heap.size+1:=aF
 have V2:b6<w.heap.size+1+1:=aF
 have V3:¬b6=w.heap.size+1+1:=aF
 have V4:b6<w.heap.size+2:=aF
 have V5:b6<w.heap.size+1+1+1:=aF
 have V7:¬b6=w.heap.size+1+1+1:=aF
 have V8:b6<w.heap.size+3:=aF
 have Jn:q<w.heap.size:=aF
 have Jo:¬q=w.heap.size:=aF
 have Jp:q<w.heap.size+1:=aF
 have Jq:¬q=w.heap.size+1:=aF
 have Jr:q<w.heap.size+1+1:=aF
 have Js:¬q=w.heap.size+1+1:=aF
 have Jt:q<w.heap.size+2:=aF
 have abm:q<w.heap.size+1+1+1:=aF
 have abn:¬q=w.heap.size+1+1+1:=aF
 have abo:q<w.heap.size+3:=aF
 go_enter func36,ntmps36
 go_wp2_with (fail)
 repeat (any_goals (go_quiet (fail);(try go_wp2_with (fail))))
 go_region_held3 (fun w'=>w'.cell? ⟨w.heap.size,1,none⟩=some (.int .i64 (m:Int))/\w'.cell? ⟨q,2,none⟩=some (.slice (some ⟨b1,o1,none⟩) x2.length c2)/\w'.cell? ⟨b1,o1+m*5,none⟩=some (.int .i64 8)/\w'.cell? ⟨b1,o1+m*5+1,none⟩=some (.int .i64 tag)/\w'.cell? ⟨b1,o1+m*5+2,none⟩=some (.int .i64 J)/\w'.cell? ⟨b1,o1+m*5+3,none⟩=some (.slice (some ⟨b3,o3,none⟩) 2 iz)/\w'.cell? ⟨b1,o1+m*5+4,none⟩=some (.slice jG 0 jD)) (first | exact⟨jF,(U.box (W:=w) bl q hq _).trans e2,(U.box (W:=w) bl b1 dS _).trans fD,(U.box (W:=w) bl b1 dS _).trans fE,(U.box (W:=w) bl b1 dS _).trans fG,(U.box (W:=w) bl b1 dS _).trans fK,(U.box (W:=w) bl b1 dS _).trans fN⟩) (fail)
 go_wp2_with (fail)
 repeat (any_goals (go_quiet (fail);(try go_wp2_with (fail))))
 go_region_held3 (fun w'=>w'.cell? ⟨q,2,none⟩=some (.slice (some ⟨b1,o1,none⟩) x2.length c2)/\w'.cell? ⟨w.heap.size+1+1,3,none⟩=some (.slice (some ⟨b3,o3,none⟩) 2 iz)/\w'.cell? ⟨b3,o3+1,none⟩=some (.int .i64 (m2:Int))/\w'.cell? ⟨b1,o1+m2*5,none⟩=some (.int .i64 3)/\w'.cell? ⟨b1,o1+m2*5+1,none⟩=some (.int .i64 nx)/\w'.cell? ⟨b1,o1+m2*5+2,none⟩=some (.int .i64 ny)/\w'.cell? ⟨b1,o1+m2*5+3,none⟩=some (.slice (some ⟨b6,o6,none⟩) its.length De)/\w'.cell? ⟨b1,o1+m2*5+4,none⟩=some (.slice vo keys.length vp)) (first | exact⟨(U.box (W:=w) bl q hq _).trans e2,jF,(U.box (W:=w) bl b3 yN _).trans AP,(U.box (W:=w) bl b1 dS _).trans ua,(U.box (W:=w) bl b1 dS _).trans ub,(U.box (W:=w) bl b1 dS _).trans uc,(U.box (W:=w) bl b1 dS _).trans ud,(U.box (W:=w) bl b1 dS _).trans qB⟩) (fail)
 go_wp2_with (fail)
 repeat (any_goals (go_quiet (fail);(try go_wp2_with (fail))))
 go_region_held3 (fun w'=>w'.cell? ⟨w.heap.size+1+1+1,3,none⟩=some (.slice (some ⟨b6,o6,none⟩) its.length De)/\w'.cell? ⟨w.heap.size+1+1+1,4,none⟩=some (.slice vo keys.length vp)/\w'.cell? ⟨w.heap.size+1+1,3,none⟩=some (.slice (some ⟨b3,o3,none⟩) 2 iz)/\w'.cell? ⟨b3,o3+6,none⟩=some (.int .i64 iq)/\w'.cell? ⟨b3,o3+7,none⟩=some (.int .i64 fV)/\w'.cell? ⟨b3,o3+8,none⟩=some (.int .i64 iu)/\w'.cell? ⟨b3,o3+9,none⟩=some (.string iA)/\w'.cell? ⟨b3,o3+10,none⟩=some (.int .i64 iB)/\w'.cell? ⟨b3,o3+11,none⟩=some (.int .i64 iN)/\w'.cell? ⟨b6,o6+d*6,none⟩=some (.int .i64 JA)/\w'.cell? ⟨b6,o6+d*6+1,none⟩=some (.int .i64 JB)/\w'.cell? ⟨b6,o6+d*6+2,none⟩=some (.int .i64 JC)/\w'.cell? ⟨b6,o6+d*6+3,none⟩=some (.string JD)/\w'.cell? ⟨b6,o6+d*6+4,none⟩=some (.int .i64 JE)/\w'.cell? ⟨b6,o6+d*6+5,none⟩=some (.int .i64 JF)) (first | exact⟨jF,jF,jF,(U.box (W:=w) bl b3 yN _).trans Mx,(U.box (W:=w) bl b3 yN _).trans My,(U.box (W:=w) bl b3 yN _).trans Mz,(U.box (W:=w) bl b3 yN _).trans Vx,(U.box (W:=w) bl b3 yN _).trans Vy,(U.box (W:=w) bl b3 yN _).trans abe,(U.box (W:=w) bl b6 D1 _).trans abf,(U.box (W:=w) bl b6 D1 _).trans abg,(U.box (W:=w) bl b6 D1 _).trans abh,(U.box (W:=w) bl b6 D1 _).trans abj,(U.box (W:=w) bl b6 D1 _).trans abk,(U.box (W:=w) bl b6 D1 _).trans abl⟩) (first | (go_at_call 85;(with_reducible refine (xO keys ⟨iq,fV,iu,iA,iB,iN⟩ S _ _ _ (Row.de bl oX.out)).mono ?_);rintro e wk ⟨rfl,yq⟩;rw[HD.out];(have hzk:=yq.sz;obtain⟨QC,QD,afV,afW⟩:=yq.lay (w.heap.size);obtain⟨si,BU,QE,afX⟩:=yq.lay (w.heap.size+1);obtain⟨QF,QG,afY,afZ⟩:=yq.lay (w.heap.size+1+1);obtain⟨QH,QI,af1,af2⟩:=yq.lay (w.heap.size+1+1+1);obtain⟨af4,af5,af6,af7⟩:=yq.lay (q);obtain⟨af8,af9,aga,agb⟩:=yq.lay (b1);obtain⟨agc,agd,age,agf⟩:=yq.lay (b3);obtain⟨agh,agi,agj,agk⟩:=yq.lay (b6))))
 (go_wp2_with (fail))
 all_goals
  have HZ6:Z6 wk (w.heap.size+1):=⟨aP,aP,aP,(by first | (simp[si];done) | (simp[si];rfl) | (simp[go_sem,si];done) | (simp[go_sem,si];rfl) | (simp[go_sem, * ];done) | (simp[go_sem, * ];rfl)),aP,aP,(fun o=>by first | (simp[BU];done) | (simp[go_sem,BU];done) | (simp[go_sem, * ];done)),QE⟩
  have hBw:U w wk:=bl
  refine po HZ6 fun wz d0 d1 d2 d3 d4 d5 sS=>?_
  clear QC si QF QH QD BU QG QI
  refine bodyPost_ret (v:=.tuple #[.agg #[.int .i64 JA,.int .i64 JB,.int .i64 JC,.string JD,.int .i64 JE,.int .i64 JF],.int .i64 0]) (by simp[results,results36,go_sem,d0,d1,d2,d3,d4,d5] <;> rfl) rfl ⟨?_,sS _ hBw aF⟩
  rw[RR.out];first | done | rfl
theorem MH (n i:Int) (t:cx) (lo hi:Int) (s:O):IK 36 s ⟨18,n,i,t,lo,hi⟩:=by
 intro S q w hs hv
 obtain⟨x0,x1,x2,x3,x4,x5,x6,x7,x8,x9,F,G,Z⟩:=s
 have js:=I hs
 obtain⟨A0,c0,A1,c1,A2,c2,A3,c3,A6,c6,A7,c7,A8,c8,hq,e0,e1,e2,e3,e4,e5,e6,e7,e8,e9,iE,jc,jd,fj,fm,fa,fb,ew,eL,eK,eV,eX,eY,fp,fq,fc,ff,g4,g5,g10,g11,g12,-,-,-,-,-,-,-⟩:=cv.j8 hs
 clear hs
 have ga:¬q=w.heap.size:=aF
 have fx:=hv.t
 unfold maxLen at fx
 simp only at fx
 have dX:U w w:=U.refl w
 have FA:¬q=w.heap.size+1:=aF
 by_cases h1:i=1
 ·
  subst h1
  have RR:=I (show nG (O.mk x0 x1 x2 x3 x4 x5 x6 x7 x8 x9 F G Z) ⟨18,n,1,t,lo,hi⟩=(⟨2,0,0,x4,0,0⟩,0) by unfold nG;rw[if_neg aJ,if_neg aJ,if_neg aJ,if_neg aJ,if_pos rfl,if_pos rfl];rfl)
  go_enter func36,ntmps36
  go_wp2_with (fail)
  repeat (any_goals (go_quiet (fail);(try go_wp2_with (fail))))
  all_goals
   refine bodyPost_ret (v:=.tuple #[.agg #[.int .i64 2,.int .i64 0,.int .i64 0,.string x4,.int .i64 0,.int .i64 0],.int .i64 0]) bF rfl ⟨?_,bl⟩
   rw[RR.out];first | done | rfl
 ·
  have f1:(i==1)=false:=aV
  have RR:=I (show nG (O.mk x0 x1 x2 x3 x4 x5 x6 x7 x8 x9 F G Z) ⟨18,n,i,t,lo,hi⟩=(⟨1,x5,0,ByteArray.empty,0,0⟩,0) by unfold nG;rw[if_neg aJ,if_neg aJ,if_neg aJ,if_neg aJ,if_pos rfl,if_neg h1];rfl)
  go_enter func36,ntmps36
  go_wp2_with (fail)
  repeat (any_goals (go_quiet (fail);(try go_wp2_with (fail))))
  all_goals
   refine bodyPost_ret (v:=.tuple #[.agg #[.int .i64 1,.int .i64 x5,.int .i64 0,.string ByteArray.empty,.int .i64 0,.int .i64 0],.int .i64 0]) bF rfl ⟨?_,bl⟩
   rw[RR.out];first | done | rfl
theorem JI (k:Int) (hk:k<13) (n i:Int) (t:cx) (lo hi:Int) (s:O):IK 36 s ⟨k,n,i,t,lo,hi⟩:=by
 intro S q w hs hv
 obtain⟨x0,x1,x2,x3,x4,x5,x6,x7,x8,x9,F,G,Z⟩:=s
 have js:=I hs
 obtain⟨A0,c0,A1,c1,A2,c2,A3,c3,A6,c6,A7,c7,A8,c8,hq,e0,e1,e2,e3,e4,e5,e6,e7,e8,e9,iE,jc,jd,fj,fm,fa,fb,ew,eL,eK,eV,eX,eY,fp,fq,fc,ff,g4,g5,g10,g11,g12,-,-,-,-,-,-,-⟩:=cv.j8 hs
 clear hs
 have ga:¬q=w.heap.size:=aF
 have fx:=hv.t
 unfold maxLen at fx
 simp only at fx
 have dX:U w w:=U.refl w
 have RR:=I (show nG (O.mk x0 x1 x2 x3 x4 x5 x6 x7 x8 x9 F G Z) ⟨k,n,i,t,lo,hi⟩=(⟨k,n,i,t,lo,hi⟩,0) by unfold nG;rw[if_neg aH,if_neg aH,if_neg aH,if_neg aH,if_neg aH])
 have alK:(k==13)=false:=aH
 have alL:(k==14)=false:=aH
 have alM:(k==15)=false:=aH
 have alN:(k==16)=false:=aH
 have alO:(k==17)=false:=aH
 have alP:(k==18)=false:=aH
 have aqo:(k==19)=false:=aH
 have aqp:(k==20)=false:=aH
 go_enter func36,ntmps36
 go_wp2_with (fail)
 repeat (any_goals (go_quiet (fail);(try go_wp2_with (fail))))
 all_goals
  refine bodyPost_ret (v:=.tuple #[.agg #[.int .i64 k,.int .i64 n,.int .i64 i,.string t,.int .i64 lo,.int .i64 hi],.int .i64 0]) bF rfl ⟨?_,bl⟩
  rw[RR.out];first | done | rfl
theorem MI (n i:Int) (t:cx) (lo hi:Int) (s:O) (S:Nat->Prop) (q:Nat) (w:World) (hs:cv w S q s):Calls prog 36 #[.pointer (some ⟨q,0,none⟩),.agg #[.int .i64 19,.int .i64 n,.int .i64 i,.string t,.int .i64 lo,.int .i64 hi]] w fun e w'=>e=.returned (.tuple #[zeroV.val,.int .i64 111])/\U w w':=by
 exact agl
theorem MJ (n i:Int) (t:cx) (lo hi:Int) (s:O) (S:Nat->Prop) (q:Nat) (w:World) (hs:cv w S q s):Calls prog 36 #[.pointer (some ⟨q,0,none⟩),.agg #[.int .i64 20,.int .i64 n,.int .i64 i,.string t,.int .i64 lo,.int .i64 hi]] w fun e w'=>e=.returned (.tuple #[zeroV.val,.int .i64 111])/\U w w':=by
 exact agl
theorem JJ (s:O) (v:cC) (hval:eP s=true) (gf:eE s v=true) (hk:v.k<=18):IK 36 s v:=by
 obtain⟨k,n,i,t,lo,hi⟩:=v
 simp only at hk
 by_cases GK:k=13
 ·
  subst GK;exact MC n i t lo hi s gf
 by_cases II:k=14
 ·
  subst II;exact ME n i t lo hi s gf
 by_cases Ve:k=15
 ·
  subst Ve;exact MF n i t lo hi s gf
 by_cases h16:k=16
 ·
  subst h16;exact MD n i t lo hi s gf
 by_cases h17:k=17
 ·
  subst h17;exact MG n i t lo hi s hval gf
 by_cases h18:k=18
 ·
  subst h18;exact MH n i t lo hi s
 exact JI k aF n i t lo hi s
end Go.Proofs.YtjngkknbpfgdcaaGreatDoor
