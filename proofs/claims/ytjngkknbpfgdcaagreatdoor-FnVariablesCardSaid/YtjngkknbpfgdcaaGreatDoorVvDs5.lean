import Derived.Test.YtjngkknbpfgdcaaGreatDoorVvDs3
set_option linter.unusedVariables false
set_option linter.unusedSimpArgs false
set_option maxRecDepth 100000
set_option maxHeartbeats 8000000
namespace Go.Proofs.YtjngkknbpfgdcaaGreatDoor
open Go.RowKit Go.Proofs.Tryz
def oN:R->List Value | .mk k n i t lo hi=>[.int .i64 k,.int .i64 n,.int .i64 i,.string t,.int .i64 lo,.int .i64 hi]
theorem IV (w:World):∀x:R,x.v.Ok->Y.dh w [] x.D (oN x)
 | .mk k n i t lo hi,h=>by
  rw[R.iM]
  exact⟨[],[],rfl,Y.eZ.2 ⟨rfl,rfl,h.k⟩,⟨[],[],rfl,Y.eZ.2 ⟨rfl,rfl,h.n⟩,⟨[],[],rfl,Y.eZ.2 ⟨rfl,rfl,h.i⟩,⟨[],[],rfl,Y.mK.2 ⟨rfl,rfl,h.t⟩,⟨[],[],rfl,Y.eZ.2 ⟨rfl,rfl,h.lo⟩,⟨[],[],rfl,Y.eZ.2 ⟨rfl,rfl,h.hi⟩,rfl⟩⟩⟩⟩⟩⟩
theorem Bn (w:World):∀xs:List R,(∀x,x∈xs->x.v.Ok)->Y.j3 w 6 [] (xs.map R.D) (xs.flatMap oN)
 | [],_=>⟨rfl,rfl⟩
 | x :: r,h=>⟨[],[],oN x,r.flatMap oN,rfl,by simp,by cases x;rfl,IV w x (h x aJ),Bn w r (fun y hy=>h y (by simp[hy]))⟩
theorem sF:∀xs:List R,(xs.flatMap oN).length=xs.length*6
 | []=>rfl
 | .mk k n i t lo hi :: r=>by
  have:=sF r
  simp only[List.flatMap_cons,oN,List.length_append,aD,aE,this]
  omega
theorem dK.C0 (w:World) (E:TypeId) (xs:List R) (AN:∀x,x∈xs->x.v.Ok) (hl:xs.length<=1000) {cs:Array Value} (Uv:cs=(xs.flatMap oN).toArray):dK (w.alloc (.cells cs E)) E 6 (.slice (some ⟨w.heap.size,0,none⟩) xs.length xs.length) [] (xs.map R.D):=by
 subst Uv
 refine⟨xs.flatMap oN,⟨by rw[sF,ar],Or.inr ⟨w.heap.size,xs.length,(xs.flatMap oN).toArray,by rw[ar],Nat.zero_le _,heap_alloc_new w _,by simp,by unfold maxLen;omega,by rw[List.size_toArray];exact sF xs,by have e:=sF xs;simp only[ar];rw[<-e];exact List.take_length⟩⟩,Bn _ xs AN,List.nodup_nil,fun b _ h=>by cases h⟩
theorem Uw {w:World} (kk t:Int) (vs:List R) (v:Value) (h:dK w 34 6 v [] (vs.map R.D)) (hk:dT kk) (ht:dT t):∃M:List Nat,(∀s,dT s->Y.dh w M (cr.mk kk t s vs []).D [.int .i64 kk,.int .i64 t,.int .i64 s,v,.slice none 0 0])/\M.Nodup/\∀x,x∈M->iG v [] x:=by
 obtain⟨A3,c3,L3,e3,r3,n3,b3⟩:=h.ownRow
 rw[ar]at e3
 subst e3
 refine⟨L3++[],fun s hs=>cr.kL hk ht hs r3 (x4:=[]) (du.nil w 6 none 0 (Nat.zero_le _)),by simpa using n3,fun x hx=>b3 x (by simpa using hx)⟩
def ajG (w:World) (e:Ending) (w':World):Prop:=∃(A:Option Addr) (m c:Nat),m<=2/\e=.returned (.slice A m c)/\(m≠0->∃g,A=some ⟨g,0,none⟩/\w.heap.size<=g/\C5 w' g m)/\U w w'
theorem vg (op:Int) (w:World):Calls prog 80 #[.int .i64 op] w (ajG w):=by
 go_enter func80,ntmps80
 go_wp2_with (fail)
 all_goals
  go_returns
  first
   | exact⟨none,0,0,by omega,rfl,fun h=>absurd rfl h,bl⟩
   | exact⟨_,1,_,by omega,rfl,fun _=>⟨w.heap.size,rfl,Nat.le_refl _,lR [1] aI⟩,bl⟩
   | exact⟨_,1,_,by omega,rfl,fun _=>⟨w.heap.size,rfl,Nat.le_refl _,lR [2] aI⟩,bl⟩
   | exact⟨_,1,_,by omega,rfl,fun _=>⟨w.heap.size,rfl,Nat.le_refl _,lR [3] aI⟩,bl⟩
   | exact⟨_,1,_,by omega,rfl,fun _=>⟨w.heap.size,rfl,Nat.le_refl _,lR [12] aI⟩,bl⟩
   | exact⟨_,1,_,by omega,rfl,fun _=>⟨w.heap.size,rfl,Nat.le_refl _,lR [13] aI⟩,bl⟩
   | exact⟨_,2,_,by omega,rfl,fun _=>⟨w.heap.size,rfl,Nat.le_refl _,lR [12,12] aI⟩,bl⟩
   | exact⟨_,2,_,by omega,rfl,fun _=>⟨w.heap.size,rfl,Nat.le_refl _,lR [12,13] aI⟩,bl⟩
def IW (w0:World) (c q:Nat) (A:Option Addr) (n cap:Nat) (x0:List cx) (x1:List cw) (x3:List R) (v0 v1 v3:Value) (L1:List Nat) (ts:cx) (pos tk:Int) (w:World) (v2:Value) (L:List Nat) (x2:List cr) (le:List o7) (e:Ending) (w':World):Prop :=
 ∃(v:cC) (y:Value) (L':List Nat) (y2:List cr) (u:Int),v.Ok/\e=.returned v.val/\SQ w0 c q A n cap x0 x1 x3 v0 v1 v3 L1 ts pos tk w' y L' y2 u le/\y2.length<=x2.length+1/\(w.heap.size<=w'.heap.size/\∀d,d<w.heap.size->d≠q->d≠c->v2.ownBlock≠some d->w'.heap[d]?=w.heap[d]?)/\∀x,iG y L' x->iG v2 L x\/w.heap.size<=x
section
variable {w0:World} {c q:Nat} {A:Option Addr} {n cap:Nat} {x0:List cx} {x1:List cw} {x3:List R} {v0 v1 v3:Value} {L1:List Nat} {ts:cx} {pos tk:Int} {w w' w4:World} {v2:Value} {L:List Nat} {x2:List cr} {mm:Int} {le:List o7} {b:Nat}
theorem SQ.Ux (h:SQ w0 c q A n cap x0 x1 x3 v0 v1 v3 L1 ts pos tk w v2 L x2 mm le) (hl:∀f,f∈(LA x0 x1 v0 v1 L1)++EO v2 L x2 :: (LG x3 v3 le)->¬iG f.v f.L b) (hb:w0.heap.size<=b/\b≠q) (k:vj b w w'):SQ w0 c q A n cap x0 x1 x3 v0 v1 v3 L1 ts pos tk w' v2 L x2 mm le:=by
 have hz:=k.size
 exact h.via ⟨h.st.box.block aF (k.block q (Ne.symm hb.2)),h.st.gv.keep aF (fun e he x hx=>k.block x (fun e2=>hl e he (e2▸hx))),h.st.low⟩ ⟨k.os,k.tape,k.output,by omega⟩ (fun d hd=>k.block d aF) h.ok.2.2.1 h.Kp
theorem IW.plain (h:SQ w0 c q A n cap x0 x1 x3 v0 v1 v3 L1 ts pos tk w v2 L x2 mm le) (hC:kC w' c A n cap) (hO:ic c w w') {v:cC} (hv:v.Ok):IW w0 c q A n cap x0 x1 x3 v0 v1 v3 L1 ts pos tk w v2 L x2 le (.returned v.val) w' :=
 ⟨v,v2,L,x2,mm,hv,rfl,h.xB hO hC,Nat.le_succ _,⟨hO.size,fun d hd _ hc _=>hO.block d hd hc⟩,fun x hx=>Or.inl hx⟩
end
def ajH (w0:World) (c q:Nat) (A:Option Addr) (n cap:Nat) (x0:List cx) (x1:List cw) (x3:List R) (v0 v1 v3:Value) (L1:List Nat) (ts:cx) (pos tk:Int) (w1:World) (v2:Value) (L:List Nat) (x2:List cr) (le:List o7) (e:Ending) (w':World):Prop :=
 ∃(y:Value) (L':List Nat) (y2:List cr) (u:Int),e=.returned (.int .i64 (x2.length:Nat))/\SQ w0 c q A n cap x0 x1 x3 v0 v1 v3 L1 ts pos tk w' y L' y2 u le/\y2.length=x2.length+1/\w1.heap.size<=w'.heap.size/\(∀d,d<w1.heap.size->d≠q->v2.ownBlock≠some d->w'.heap[d]?=w1.heap[d]?)/\∀x,iG y L' x->iG v2 L x\/w1.heap.size<=x
theorem EZ {w0:World} {c q:Nat} {A:Option Addr} {n cap:Nat} {x0:List cx} {x1:List cw} {x3:List R} {v0 v1 v3:Value} {L1:List Nat} {ts:cx} {pos tk:Int} {w w1:World} {v2:Value} {L:List Nat} {x2:List cr} {mm:Int} {le:List o7} (h:SQ w0 c q A n cap x0 x1 x3 v0 v1 v3 L1 ts pos tk w v2 L x2 mm le) (dE:U w w1) (kk t:Int) (xs:List R) (AN:∀x,x∈xs->x.v.Ok) (hx:xs.length<=100) {cs:Array Value} (Uv:cs=(xs.flatMap oN).toArray) (hk:dT kk) (ht:dT t) (hl:x2.length<=2097152) :
  Calls prog 76 #[.pointer (some ⟨q,0,none⟩),.agg #[.int .i64 kk,.int .i64 t,.int .i64 0,.slice (some ⟨w1.heap.size,0,none⟩) xs.length xs.length,.slice none 0 0]] (w1.alloc (.cells cs 34)) (ajH w0 c q A n cap x0 x1 x3 v0 v1 v3 L1 ts pos tk w1 v2 L x2 le):=by
 have jl:U w (w1.alloc (.cells cs 34)):=dE.trans bl
 have hs:=h.on jl
 have hz:=dE.size
 have WN:=h.gV.size
 have Pg:=h.st.box.1
 obtain⟨M,hd,hn,hM⟩:=Uw kk t xs _ (dK.C0 w1 34 xs AN aF Uv) hk ht
 have hMe:∀x,x∈M->x=w1.heap.size:=fun x hx=>by
  rcases hM x hx with q | q
  ·
   exact (Option.some.inj (show some w1.heap.size=some x from q)).symm
  ·
   cases q
 refine (Pq hs kk t _ _ xs [] M hd hn (fun x hx=>?_) hl ⟨hx,by simp⟩).mono ?_
 ·
  have e:=hMe x hx
  exact⟨by omega,by omega,fun f hf hb=>by have:=(h.st.gv.own f hf).lt x hb;omega⟩
 ·
  rintro e w' ⟨y,o,u,rfl,hq,hf,hy⟩
  have hzx:(w1.alloc (.cells cs 34)).heap.size=w1.heap.size+1:=aJ
  refine⟨y,_,_,u,rfl,hq,by simp,by omega,fun d hd h1 h2=>(hf.2 d aF h1 h2).trans (heap_alloc_old w1 _ hd),fun x hx=>?_⟩
  rcases hy x hx with q | q | q
  ·
   exact Or.inl q
  ·
   exact Or.inr (by have:=hMe x q;omega)
  ·
   exact Or.inr aF
theorem SQ.fresh {w0:World} {c q:Nat} {A:Option Addr} {n cap:Nat} {x0:List cx} {x1:List cw} {x3:List R} {v0 v1 v3:Value} {L1:List Nat} {ts:cx} {pos tk:Int} {w w1:World} {v2 y:Value} {L L':List Nat} {x2 y2:List cr} {mm:Int} {le:List o7} (h:SQ w0 c q A n cap x0 x1 x3 v0 v1 v3 L1 ts pos tk w v2 L x2 mm le) (hx:∀x,iG y L' x->iG v2 L x\/w1.heap.size<=x) {b:Nat} (h1:w.heap.size<=b) (h2:b<w1.heap.size):∀f,f∈(LA x0 x1 v0 v1 L1)++EO y L' y2 :: (LG x3 v3 le)->¬iG f.v f.L b:=fun f hf hb=>by
 rcases (show f∈(LA x0 x1 v0 v1 L1)++EO v2 L x2 :: (LG x3 v3 le)\/f=EO y L' y2 by simp at hf |-;grind)with q | rfl
 ·
  have:=(h.st.gv.own f q).lt b hb;omega
 ·
  rcases hx b hb with q | q
  ·
   have:=(h.st.gv.own (EO v2 L x2) aJ).lt b q;omega
  ·
   omega
theorem xD {w0:World} {c q:Nat} {A:Option Addr} {n cap:Nat} {x0:List cx} {x1:List cw} {x3:List R} {v0 v1 v3:Value} {L1:List Nat} {ts:cx} {pos tk:Int} {w:World} {v2:Value} {L:List Nat} {x2:List cr} {mm:Int} {le:List o7} (h:SQ w0 c q A n cap x0 x1 x3 v0 v1 v3 L1 ts pos tk w v2 L x2 mm le) (k:Int) (hl:x2.length<=2097152) :
  Calls prog 81 #[.pointer (some ⟨c,0,none⟩),.pointer (some ⟨q,0,none⟩),.int .i64 k] w (IW w0 c q A n cap x0 x1 x3 v0 v1 v3 L1 ts pos tk w v2 L x2 le):=by
 have H:=I h
 have HC:=I h.cur
 have jP:=h.cur.1
 have Pg:=h.st.box.1
 have zx:=h.gV.size
 have iP:w.heap.size≠c:=aF
 have ga:¬q=w.heap.size:=aF
 clear h
 have mj:=I (HC.out.de (w':=w.alloc (.cells #[.int .i64 0,.int .i64 0,.int .i64 0,.string ByteArray.empty,.int .i64 0,.int .i64 0] 34)) bl)
 rcases (show k=1\/k=2\/k=3\/k=13\/(k≠1/\k≠2/\k≠3/\k≠13) by omega)with rfl | rfl | rfl | rfl | ⟨k1,k2,k3,k13⟩
 all_goals
  go_enter func81,ntmps81
 ·
  go_wp2_with (first
   | (go_at_call 75;refine (dN 4 c A n cap _ (HC.out.de bl) aO).mono ?_;rintro e w1 ⟨y,y1,y2,rfl,hC,hO⟩;have r2:y<=3:=y2;clear y2;have mc:=I hC;have nW:=I (ic.trans (ic.dH (c:=c) (w:=w) bl) hO);have Z1:=I (Z6.gV Z6.new hO iP);clear hC hO;have h9:=Z1.out;obtain⟨z0,z1,z2,z3,z4,z5,zf,zl⟩:=h9)
   | (go_at_call 73;refine (kf y _).mono ?_;rintro e w2 ⟨rfl,hb⟩;have sD:=I (mc.out.de hb);have nO:=I (nW.out.trans (ic.dH hb));have Z2:=I (Z1.out.on hb);have h9:=Z2.out;obtain⟨z0,z1,z2,z3,z4,z5,zf,zl⟩:=h9;clear hb))
  refine gG (Z2.out) fun wz d0 d1 d2 d3 d4 d5 ho hf hz _=>?_
  exact bodyPost_ret (v:=(cC.ofInt y).val) bm rfl (IW.plain H.out (kC.fin HC.out (sD.out) (ho _ _ (nO.out) (Nat.le_refl _)) (fun o=>hf _ _ (Ne.symm iP)) (fun o=>hz _)) (ho _ _ (nO.out) (Nat.le_refl _)) (⟨fM (by show -100<=(1:Int);omega) (by show (1:Int)<=100;omega),by show dT y;unfold dT;omega,lM,by show ByteArray.empty.size<=maxLen;decide,lM,lM⟩))
 ·
  go_wp2_with (first
   | (go_at_call 74;refine (nQ (w.heap.size+1) 4 3 4 c A n cap ((w.alloc (.cells #[.int .i64 0,.int .i64 0,.int .i64 0,.string ByteArray.empty,.int .i64 0,.int .i64 0] 34)).alloc _) (HC.out.de bl) (by have h:=rW (w:=w.alloc (.cells #[.int .i64 0,.int .i64 0,.int .i64 0,.string ByteArray.empty,.int .i64 0,.int .i64 0] 34)) (t:=9) 3 [⟨#[]⟩,⟨#[97]⟩,⟨#[97,110]⟩,⟨#[98,97,110]⟩] bP;rw[World.size_alloc]at h;exact h) aF aF aF).mono ?_;rintro e w1 ⟨x,hx,rfl,hC,hO⟩;have hx':=I hx;have mc:=I hC;have nW:=I (ic.trans (ic.dH (c:=c) (w:=w) bl) hO);have Z1:=I (Z6.gV (Z6.on (w':=(w.alloc (.cells #[.int .i64 0,.int .i64 0,.int .i64 0,.string ByteArray.empty,.int .i64 0,.int .i64 0] 34)).alloc _) Z6.new bl) hO iP);clear hC hO hx;have h9:=Z1.out;obtain⟨z0,z1,z2,z3,z4,z5,zf,zl⟩:=h9)
   | (go_at_call 77;refine (ni x _).mono ?_;rintro e w2 ⟨rfl,hb⟩;have sD:=I (mc.out.de hb);have nO:=I (nW.out.trans (ic.dH hb));have Z2:=I (Z1.out.on hb);have h9:=Z2.out;obtain⟨z0,z1,z2,z3,z4,z5,zf,zl⟩:=h9;clear hb))
  refine gG (Z2.out) fun wz d0 d1 d2 d3 d4 d5 ho hf hz _=>?_
  exact bodyPost_ret (v:=(cC.IM x).val) bm rfl (IW.plain H.out (kC.fin HC.out (sD.out) (ho _ _ (nO.out) (Nat.le_refl _)) (fun o=>hf _ _ (Ne.symm iP)) (fun o=>hz _)) (ho _ _ (nO.out) (Nat.le_refl _)) (⟨fM (by show -100<=(2:Int);omega) (by show (2:Int)<=100;omega),lM,lM,by have h:=hx'.out;show x.size<=maxLen;unfold maxLen;omega,lM,lM⟩))
 ·
  go_wp2_with (first
   | (go_at_call 74;refine (nQ (w.heap.size+1) 4 3 4 c A n cap ((w.alloc (.cells #[.int .i64 0,.int .i64 0,.int .i64 0,.string ByteArray.empty,.int .i64 0,.int .i64 0] 34)).alloc _) (HC.out.de bl) (by have h:=rW (w:=w.alloc (.cells #[.int .i64 0,.int .i64 0,.int .i64 0,.string ByteArray.empty,.int .i64 0,.int .i64 0] 34)) (t:=9) 3 [⟨#[97]⟩,⟨#[97,110]⟩,⟨#[98,97,110]⟩,⟨#[]⟩] bP;rw[World.size_alloc]at h;exact h) aF aF aF).mono ?_;rintro e w1 ⟨x,hx,rfl,hC,hO⟩;have hx':=I hx;have mc:=I hC;have nW:=I (ic.trans (ic.dH (c:=c) (w:=w) bl) hO);have Z1:=I (Z6.gV (Z6.on (w':=(w.alloc (.cells #[.int .i64 0,.int .i64 0,.int .i64 0,.string ByteArray.empty,.int .i64 0,.int .i64 0] 34)).alloc _) Z6.new bl) hO iP);clear hC hO hx;have h9:=Z1.out;obtain⟨z0,z1,z2,z3,z4,z5,zf,zl⟩:=h9)
   | (go_at_call 120;refine (sT x _ (by have h:=hx'.out;unfold maxLen;omega)).mono ?_;rintro e w2 ⟨rfl,hb⟩;have hI:=Xc x;have hI1:=I hI.1;have hI2:=I hI.2;clear hI;generalize E4 x=lo at hI1 |-;generalize E5 x=hi at hI2 |-;generalize IX x=ok;have sD:=I (mc.out.de hb);have nO:=I (nW.out.trans (ic.dH hb));have Z2:=I (Z1.out.on hb);clear hb)
   | (go_at_call 99;refine (yb lo hi _).mono ?_;rintro e w3 ⟨rfl,hb⟩;have xz:=I (sD.out.de (U.trans (show U w2 _ from bl) hb));have tq:=I (nO.out.trans (ic.dH (U.trans (show U w2 _ from bl) hb)));have Z3:=I (Z2.out.on (U.trans (show U w2 _ from bl) hb));have h9:=Z3.out;obtain⟨z0,z1,z2,z3,z4,z5,zf,zl⟩:=h9;clear hb))
  refine gG (Z3.out) fun wz d0 d1 d2 d3 d4 d5 ho hf hz _=>?_
  exact bodyPost_ret (v:=(cC.Pe lo hi).val) bm rfl (IW.plain H.out (kC.fin HC.out (xz.out) (ho _ _ (tq.out) (Nat.le_refl _)) (fun o=>hf _ _ (Ne.symm iP)) (fun o=>hz _)) (ho _ _ (tq.out) (Nat.le_refl _)) (⟨fM (by show -100<=(3:Int);omega) (by show (3:Int)<=100;omega),lM,lM,by show ByteArray.empty.size<=maxLen;decide,hI1.out,hI2.out⟩))
 ·
  go_wp2_with (first
   | (go_at_call 75;refine (dN 2 c A n cap _ (HC.out.de bl) aO).mono ?_;rintro e w1 ⟨y,y1,y2,rfl,hC,hO⟩;have r2:y<=1:=y2;clear y2;have mc:=I hC;have nW:=I (ic.trans (ic.dH (c:=c) (w:=w) bl) hO);have Z1:=I (Z6.gV Z6.new hO iP);clear hC hO;have h9:=Z1.out;obtain⟨z0,z1,z2,z3,z4,z5,zf,zl⟩:=h9))
  refine gG (Z1.out) fun wz d0 d1 d2 d3 d4 d5 ho hf hz _=>?_
  exact bodyPost_ret (v:=((⟨14,0,y,ByteArray.empty,0,0⟩:cC)).val) bm rfl (IW.plain H.out (kC.fin HC.out (mc.out) (ho _ _ (nW.out) (Nat.le_refl _)) (fun o=>hf _ _ (Ne.symm iP)) (fun o=>hz _)) (ho _ _ (nW.out) (Nat.le_refl _)) (⟨fM (by show -100<=(14:Int);omega) (by show (14:Int)<=100;omega),lM,by show dT y;unfold dT;omega,by show ByteArray.empty.size<=maxLen;decide,lM,lM⟩))
 ·
  have e1:(k==1)=false:=beq_eq_false_iff_ne.2 k1
  have e2:(k==2)=false:=beq_eq_false_iff_ne.2 k2
  have e3:(k==3)=false:=beq_eq_false_iff_ne.2 k3
  have e13:(k==13)=false:=beq_eq_false_iff_ne.2 k13
  clear k1 k2 k3 k13
  have oZ:v2.ownBlock≠some w.heap.size:=fun e=>by have:=(H.out.st.gv.own (EO v2 L x2) aJ).lt w.heap.size (Or.inl e);omega
  have ok2:(R.mk 2 0 0 ⟨#[97]⟩ 0 0).v.Ok:=⟨fM (by show -100<=(2:Int);omega) (by show (2:Int)<=100;omega),lM,lM,by show (⟨#[97]⟩:cx).size<=maxLen;decide,lM,lM⟩
  go_wp2_with (first
   | (go_at_call 77;refine (ni _ _).mono ?_;rintro e w1 ⟨rfl,dE⟩;have Z1:=I (Z6.on Z6.new dE);have k1:U w w1:=bl;have jZ:w.heap.size<w1.heap.size:=Z1.out.2.2.2.2.2.2.2)
   | (go_at_call 76;refine (EZ H.out (w1:=w1) bl 7 1 [.mk 2 0 0 ⟨#[97]⟩ 0 0] (fun x hx=>by rw[List.mem_singleton.1 hx];exact ok2) aI rfl aO aO hl).mono ?_;rintro e w2 ⟨y,L9,y2,u,rfl,hs,hn2,xX,hf,hx⟩;have HS2:=I hs;have HF:=I hf;have HX:=I hx;have Z2:=I (Z6.block Z1.out xX (hf _ aF aF oZ));have h9:=Z2.out;obtain⟨z0,z1,z2,z3,z4,z5,zf,zl⟩:=h9;clear hs hf hx))
  refine Lx Z2.out fun wz d0 d1 d2 d3 d4 d5 hB=>?_
  have hzB:=hB.size
  exact bodyPost_ret (v:=((⟨12,x2.length,0,ByteArray.empty,0,0⟩:cC)).val) bm rfl ⟨_,y,L9,y2,u,⟨fM (by show -100<=(12:Int);omega) (by show (12:Int)<=100;omega),by show dT (x2.length:Int);unfold dT;omega,lM,by show ByteArray.empty.size<=maxLen;decide,lM,lM⟩,rfl,HS2.out.Ux (SQ.fresh H.out (w1:=w1) HX.out (Nat.le_refl _) aF) ⟨zx,Ne.symm ga⟩ hB,by omega,⟨by omega,fun d hd h1 _ h3=>(hB.block d aF).trans ((HF.out d aF h1 h3).trans (Below.block k1 d hd))⟩,fun x hx=>(HX.out x hx).imp id (fun h=>by omega)⟩
def nX:List cx:=[⟨#[109,97,105,110]⟩,⟨#[102]⟩]
def flD:List cx:=[⟨#[117]⟩,⟨#[118]⟩]
def oW:List cw:=[.mk ⟨#[112,111,105,110,116]⟩ flD 0]
def oM:List R:=[.mk 0 0 0 ⟨#[]⟩ 0 0,.mk 1 3 0 ⟨#[]⟩ 0 0]
def obD:List R:=[.mk 0 0 0 ⟨#[]⟩ 0 0,.mk 1 1 0 ⟨#[]⟩ 0 0,.mk 2 0 0 ⟨#[97,98]⟩ 0 0]
theorem lS (k n i:Int) (t:cx) (hk : -100<=k/\k<=100) (hn : -100<=n/\n<=100) (hi : -100<=i/\i<=100) (ht:t.size<=100):(R.mk k n i t 0 0).v.Ok:=⟨fM hk.1 hk.2,fM hn.1 hn.2,fM hi.1 hi.2,by show t.size<=maxLen;unfold maxLen;omega,lM,lM⟩
theorem aao:∀x,x∈oM->x.v.Ok:=fun x hx=>by
 simp only[oM,List.mem_cons,List.not_mem_nil,or_false]at hx
 rcases hx with rfl | rfl
 ·
  exact lS 0 0 0 _ aI aI aI aI
 ·
  exact lS 1 3 0 _ aI aI aI aI
theorem aap:∀x,x∈obD->x.v.Ok:=fun x hx=>by
 simp only[obD,List.mem_cons,List.not_mem_nil,or_false]at hx
 rcases hx with rfl | rfl | rfl
 ·
  exact lS 0 0 0 _ aI aI aI aI
 ·
  exact lS 1 1 0 _ aI aI aI aI
 ·
  exact lS 2 0 0 _ aI aI aI aI
theorem Bo (w:World):∀xs:List cx,(∀x,x∈xs->x.size<=maxLen)->Y.j3 w 1 [] (xs.map fun x=>[Y.str x]) (xs.map Value.string)
 | [],_=>⟨rfl,rfl⟩
 | x :: r,h=>⟨[],[],[.string x],r.map Value.string,rfl,rfl,rfl,⟨[],[],rfl,Y.mK.2 ⟨rfl,rfl,h x aJ⟩,rfl⟩,Bo w r (fun y hy=>h y (by simp[hy]))⟩
theorem dK.ad8 (w:World) (E:TypeId) (xs:List cx) (AN:∀x,x∈xs->x.size<=maxLen) (hl:xs.length<=1000) {cs:Array Value} (Uv:cs=(xs.map Value.string).toArray):dK (w.alloc (.cells cs E)) E 1 (.slice (some ⟨w.heap.size,0,none⟩) xs.length xs.length) [] (xs.map fun x=>[Y.str x]):=by
 subst Uv
 refine⟨xs.map Value.string,⟨by simp,Or.inr ⟨w.heap.size,xs.length,(xs.map Value.string).toArray,by rw[ar],Nat.zero_le _,heap_alloc_new w _,by simp,by unfold maxLen;omega,by simp,by simp[List.take_of_length_le]⟩⟩,Bo _ xs AN,List.nodup_nil,fun b _ h=>by cases h⟩
theorem Kq (xs:List cx) (h:xs.all (fun x=>decide (x.size<=1000))=true):∀x,x∈xs->x.size<=maxLen:=fun x hx=>by
 have:=List.all_eq_true.1 h x hx
 simp at this
 unfold maxLen;omega
theorem iG.one {b x:Nat} {o m n:Nat} (h:iG (.slice (some ⟨b,o,none⟩) m n) [] x):x=b:=by
 rcases h with q | q
 ·
  exact (Option.some.inj (show some b=some x from q)).symm
 ·
  cases q
theorem IY {w0 w1:World} (hb:U (((w0.alloc (.cells #[.string ⟨#[109,97,105,110]⟩,.string ⟨#[102]⟩] 9)).alloc (.cells #[.string ⟨#[117]⟩,.string ⟨#[118]⟩] 9)).alloc (.cells #[.string ⟨#[112,111,105,110,116]⟩,.slice (some ⟨w0.heap.size+1,0,none⟩) 2 2,.int .i64 0] 109)) w1) :
  ∃L1:List Nat,gL w0.heap.size w1 (LA nX oW (.slice (some ⟨w0.heap.size,0,none⟩) 2 2) (.slice (some ⟨w0.heap.size+1+1,0,none⟩) 1 1) L1++[EO ku [] []]):=by
 have h1:dK (w0.alloc (.cells #[.string ⟨#[109,97,105,110]⟩,.string ⟨#[102]⟩] 9)) 9 1 (.slice (some ⟨w0.heap.size,0,none⟩) 2 2) [] (nX.map fun x=>[Y.str x]):=dK.ad8 w0 9 nX (Kq nX aI) aI rfl
 obtain⟨wa,Ly⟩:∃x,w0.alloc (.cells #[.string ⟨#[109,97,105,110]⟩,.string ⟨#[102]⟩] 9)=x:=⟨_,rfl⟩
 have hza:wa.heap.size=w0.heap.size+1:=by rw[<-Ly];simp
 have nL:U w0 wa:=by rw[<-Ly];exact bl
 rw[Ly]at h1 hb
 have h2:dK (wa.alloc (.cells #[.string ⟨#[117]⟩,.string ⟨#[118]⟩] 9)) 9 1 (.slice (some ⟨wa.heap.size,0,none⟩) 2 2) [] (flD.map fun x=>[Y.str x]):=dK.ad8 wa 9 flD (Kq flD aI) aI rfl
 obtain⟨wb,hwb⟩:∃x,wa.alloc (.cells #[.string ⟨#[117]⟩,.string ⟨#[118]⟩] 9)=x:=⟨_,rfl⟩
 have hzb:wb.heap.size=w0.heap.size+1+1:=by rw[<-hwb];simp[hza]
 have xT:U wa wb:=by rw[<-hwb];exact bl
 rw[hwb]at h2 hb
 rw[hza]at h2
 clear Ly hwb
 obtain⟨A3,c3,L3,e3,r3,n3,b3⟩:=h2.ownRow
 have hL3:∀x,x∈L3->x=w0.heap.size+1:=fun x hx=>(b3 x hx).one
 have hv:Y.dh wb L3 (cw.mk ⟨#[112,111,105,110,116]⟩ flD 0).D [.string ⟨#[112,111,105,110,116]⟩,.slice (some ⟨w0.heap.size+1,0,none⟩) 2 2,.int .i64 0]:=by
  rw[cw.iM]
  exact⟨[],L3,rfl,Y.mK.2 ⟨rfl,rfl,by show (5:Nat)<=maxLen;decide⟩,⟨L3,[],by simp,Y.gW.2 ⟨A3,c3,e3,r3⟩,⟨[],[],rfl,Y.eZ.2 ⟨rfl,rfl,lM⟩,rfl⟩⟩⟩
 have h3:=dK.Pr wb 109 hv rfl n3
 rw[hzb]at h3
 have jZ:=hb.size
 refine⟨L3,?_⟩
 have E0:gL w0.heap.size wa ([]++[⟨9,1,.slice (some ⟨w0.heap.size,0,none⟩) 2 2,[],nX.map fun x=>[Y.str x]⟩]):=(gL.nil _ w0).snoc nL h1 (Nat.le_refl _) (fun x hx=>by have:=hx.one;omega)
 have E1:gL w0.heap.size w1 (([]++[⟨9,1,.slice (some ⟨w0.heap.size,0,none⟩) 2 2,[],nX.map fun x=>[Y.str x]⟩])++[⟨109,3,.slice (some ⟨w0.heap.size+1+1,0,none⟩) 1 1,L3,oW.map cw.D⟩]):=by
  refine E0.snoc ((xT.trans (U.alloc (U.refl wb) _)).trans hb) (h3.de hb) aF (fun x hx=>?_)
  rcases hx with q | q
  ·
   have:=Option.some.inj (show some (w0.heap.size+1+1)=some x from q);omega
  ·
   have:=hL3 x q;omega
 exact E1.snoc (U.refl w1) (dK.nil w1 _ _) (by rw[World.size_alloc]at jZ;omega) (fun x hx=>absurd hx (fun h=>dK.xZ h))
theorem vj.six (w:World) (b:Nat) (x0 x1 x2 x3 x4 x5:Value):vj b w ((((((w.setCell ⟨b,0,none⟩ x0).setCell ⟨b,1,none⟩ x1).setCell ⟨b,2,none⟩ x2).setCell ⟨b,3,none⟩ x3).setCell ⟨b,4,none⟩ x4).setCell ⟨b,5,none⟩ x5) :=
 ((((((vj.set ⟨rfl,rfl,rfl,rfl,fun _ _=>rfl⟩ 0 x0).set 1 x1).set 2 x2).set 3 x3).set 4 x4).set 5 x5)
section
variable {w0:World} {c q:Nat} {A:Option Addr} {n cap:Nat} {x0:List cx} {x1:List cw} {x3:List R} {v0 v1 v3:Value} {L1:List Nat} {ts:cx} {pos tk:Int} {w w' wm w9:World} {v2:Value} {L:List Nat} {x2:List cr} {mm:Int} {le:List o7} {b bv:Nat} {k t:Int} {vi vk:Value} {its fO:List R}
theorem SO.slI (h:SO w0 c q A n cap x0 x1 x3 v0 v1 v3 L1 ts pos tk w v2 L x2 mm b k t vi vk its fO):∃A3 c3,vi=.slice A3 its.length c3:=by
 obtain⟨A3,c3,-,e,-⟩:=(h.sq.st.gv.own (EV vi its) aJ).ownRow
 rw[ar]at e
 exact⟨A3,c3,e⟩
theorem SO.slK (h:SO w0 c q A n cap x0 x1 x3 v0 v1 v3 L1 ts pos tk w v2 L x2 mm b k t vi vk its fO):∃A4 c4,vk=.slice A4 fO.length c4:=by
 obtain⟨A3,c3,-,e,-⟩:=(h.sq.st.gv.own (EV vk fO) aJ).ownRow
 rw[ar]at e
 exact⟨A3,c3,e⟩
theorem SO.Lz (h:SO w0 c q A n cap x0 x1 x3 v0 v1 v3 L1 ts pos tk w v2 L x2 mm b k t vi vk its fO):dK w 34 6 vi [] (its.map R.D):=h.sq.st.gv.own (EV vi its) aJ
theorem SO.aeb (h:SO w0 c q A n cap x0 x1 x3 v0 v1 v3 L1 ts pos tk w v2 L x2 mm b k t vi vk its fO):dK w 34 6 vk [] (fO.map R.D):=h.sq.st.gv.own (EV vk fO) aJ
theorem SO.ob3 (h:SO w0 c q A n cap x0 x1 x3 v0 v1 v3 L1 ts pos tk w v2 L x2 mm b k t vi vk its fO) (hm:U w wm) (hg:wm.grownBy w9 vi.ownBlock):OB w9 b (.int .i64 k) (.int .i64 t) (.int .i64 0) vi vk:=by
 have hz:=hm.size
 have tu:=hg.size
 have hb:=h.ob.1
 exact h.ob.block aF ((hg.block b aF (fun e=>h.low (EV vi its) aJ (Or.inl e.symm))).trans (Below.block hm b hb))
theorem SO.ob4 (h:SO w0 c q A n cap x0 x1 x3 v0 v1 v3 L1 ts pos tk w v2 L x2 mm b k t vi vk its fO) (hm:U w wm) (hg:wm.grownBy w9 vk.ownBlock):OB w9 b (.int .i64 k) (.int .i64 t) (.int .i64 0) vi vk:=by
 have hz:=hm.size
 have tu:=hg.size
 have hb:=h.ob.1
 exact h.ob.block aF ((hg.block b aF (fun e=>h.low (EV vk fO) aJ (Or.inl e.symm))).trans (Below.block hm b hb))
theorem SO.Ux (h:SO w0 c q A n cap x0 x1 x3 v0 v1 v3 L1 ts pos tk w v2 L x2 mm b k t vi vk its fO) (k':vj bv w w') (hl:∀f,f∈(LA x0 x1 v0 v1 L1)++EO v2 L x2 :: LG x3 v3 [EV vi its,EV vk fO]->¬iG f.v f.L bv) (h1:w0.heap.size<=bv) (h2:bv≠q) (h3:bv≠b):SO w0 c q A n cap x0 x1 x3 v0 v1 v3 L1 ts pos tk w' v2 L x2 mm b k t vi vk its fO:=by
 have hz:=k'.size
 exact⟨h.sq.Ux hl ⟨h1,h2⟩ k',h.ob.block aF (k'.block b (Ne.symm h3)),h.low,h.DH,h.OR⟩
theorem SO.lt (h:SO w0 c q A n cap x0 x1 x3 v0 v1 v3 L1 ts pos tk w v2 L x2 mm b k t vi vk its fO):∀f,f∈(LA x0 x1 v0 v1 L1)++EO v2 L x2 :: LG x3 v3 [EV vi its,EV vk fO]->¬iG f.v f.L w.heap.size:=fun f hf hb=>by have:=(h.sq.st.gv.own f hf).lt _ hb;omega
end
theorem LB {N c:Nat} {w1 w2:World} {la:List o7} {o2:Obj} (E1:gL N w1 la) (hN:N<=w1.heap.size) (hO:ic c ((w1.alloc (.cells #[.int .i64 0,.int .i64 0,.int .i64 0,.string ⟨#[]⟩,.int .i64 0,.int .i64 0,.int .i64 1,.int .i64 3,.int .i64 0,.string ByteArray.empty,.int .i64 0,.int .i64 0] 34)).alloc o2) w2) (hc:c<N) :
  gL N w2 (la++[EV (.slice (some ⟨w1.heap.size,0,none⟩) 2 2) oM])/\ic c w1 w2/\w1.heap.size+1+1<=w2.heap.size:=by
 have hv:=dK.C0 w1 34 oM aao aI (cs:=#[.int .i64 0,.int .i64 0,.int .i64 0,.string ⟨#[]⟩,.int .i64 0,.int .i64 0,.int .i64 1,.int .i64 3,.int .i64 0,.string ByteArray.empty,.int .i64 0,.int .i64 0]) rfl
 obtain⟨wa,Ly⟩:∃x,w1.alloc (.cells #[.int .i64 0,.int .i64 0,.int .i64 0,.string ⟨#[]⟩,.int .i64 0,.int .i64 0,.int .i64 1,.int .i64 3,.int .i64 0,.string ByteArray.empty,.int .i64 0,.int .i64 0] 34)=x:=⟨_,rfl⟩
 have hza:wa.heap.size=w1.heap.size+1:=by rw[<-Ly];simp
 have nL:U w1 wa:=by rw[<-Ly];exact bl
 rw[Ly]at hv hO
 clear Ly
 have xT:U wa (wa.alloc o2):=bl
 have xX:=hO.size
 rw[World.size_alloc]at xX
 have E2:gL N wa (la++[EV (.slice (some ⟨w1.heap.size,0,none⟩) 2 2) oM]):=E1.snoc nL hv hN (fun x hx=>by have:=hx.one;omega)
 have E3:=E2.de xT
 exact⟨E3.keep hO.size fun e he b hb=>hO.block b ((E3.own e he).lt b hb) (by have:=E3.low e he b hb;omega),(ic.dH (nL.trans xT)).trans hO,by omega⟩
theorem gL.gV {N c:Nat} {w w':World} {l:List o7} (h:gL N w l) (k:ic c w w') (hc:c<N):gL N w' l:=h.keep k.size fun e he b hb=>k.block b ((h.own e he).lt b hb) (by have:=h.low e he b hb;omega)
theorem SQ.begin {w0:World} {c q:Nat} {A:Option Addr} {n cap:Nat} {x0:List cx} {x1:List cw} {x3:List R} {v0 v1 v3:Value} {L1:List Nat} {ts:cx} {pos tk:Int} {w:World} (h0:kC w0 c A n cap) (hc:kC w c A n cap) (ho:ic c w0 w) (hE:gL w0.heap.size w ((LA x0 x1 v0 v1 L1)++EO ku [] [] :: LG x3 v3 [])) (hq:SB w q v0 v1 ku v3 (.string ts) (.int .i64 pos) ku ku ku (.bool false) (.int .i64 tk) (.int .i64 400) (.int .i64 0))
  (Bm:∀f,f∈(LA x0 x1 v0 v1 L1)++EO ku [] [] :: LG x3 v3 []->¬iG f.v f.L q) (iP:w0.heap.size<=q) (h1:dT pos) (h2:dT tk) (h3:ts.size<=maxLen):SQ w0 c q A n cap x0 x1 x3 v0 v1 v3 L1 ts pos tk w ku [] [] 0 [] :=
 ⟨h0,hc,⟨hq,hE,Bm⟩,⟨h0.1,iP⟩,ho,⟨h1,h2,⟨Int.le_refl _,Int.le_refl _,lM⟩,h3⟩,fun o h=>by cases h⟩
theorem SQ.pos {w0:World} {c q:Nat} {A:Option Addr} {n cap:Nat} {x0:List cx} {x1:List cw} {x3:List R} {v0 v1 v3:Value} {L1:List Nat} {ts:cx} {pos tk:Int} {w:World} {v2:Value} {L:List Nat} {x2:List cr} {mm:Int} {le:List o7} (h:SQ w0 c q A n cap x0 x1 x3 v0 v1 v3 L1 ts pos tk w v2 L x2 mm le) {p2:Int} (hp:dT p2):SQ w0 c q A n cap x0 x1 x3 v0 v1 v3 L1 ts p2 tk (w.setCell ⟨q,5,none⟩ (.int .i64 p2)) v2 L x2 mm le:=by
 have hB:Below q w (w.setCell ⟨q,5,none⟩ (.int .i64 p2)):=Below.setCell (Below.refl q w) (show q<=(⟨q,5,none⟩:Addr).block from Nat.le_refl q) _
 have iP:=h.ne
 have same:∀k,k≠q->(w.setCell ⟨q,5,none⟩ (.int .i64 p2)).heap[k]?=w.heap[k]?:=fun k hk=>dY 5 _ (fun e=>hk e.symm)
 exact⟨h.AM,h.AM.low h.cur h.gV.size hB.size (fun k hk=>same k aF),⟨h.st.box.Ps _,h.st.gv.Lu h.st.low 5 _,h.st.low⟩,h.ne,⟨hB.os.trans h.gV.os,hB.tape.trans h.gV.tape,hB.output.trans h.gV.output,aw h.gV.size hB.size,fun k hk hc=>(same k aF).trans (h.gV.block k hk hc)⟩,⟨hp,h.ok.2⟩,h.Kp⟩
structure SM (w0:World) (c q:Nat) (A:Option Addr) (n cap:Nat) (x0:List cx) (x1:List cw) (x3:List R) (v0 v1 v3:Value) (L1:List Nat) (ts:cx) (pos tk:Int) (w:World) (v2:Value) (L:List Nat) (x2:List cr) (mm:Int) (b:Nat) (k t:Int) (vi v9 vk:Value) (its fO:List R):Prop where
 sq:SQ w0 c q A n cap x0 x1 x3 v0 v1 v3 L1 ts pos tk w v2 L x2 mm [EV v9 its,EV vk fO]
 ob:OB w b (.int .i64 k) (.int .i64 t) (.int .i64 0) vi vk
 low:∀f,f∈(LA x0 x1 v0 v1 L1)++EO v2 L x2 :: LG x3 v3 [EV v9 its,EV vk fO]->¬iG f.v f.L b
 DH:w0.heap.size<=b/\b≠q
 OR:dT k/\dT t
structure RG (q c:Nat) (x0:List cx) (x1:List cw) (x3:List R) (v0 v1 v3:Value) (L1:List Nat) (w:World) (v2:Value) (L:List Nat) (x2:List cr) (b:Nat) (vi vk:Value) (its fO:List R) (gl m:Nat):Prop where
 row:C5 w gl m
 low:∀f,f∈(LA x0 x1 v0 v1 L1)++EO v2 L x2 :: LG x3 v3 [EV vi its,EV vk fO]->¬iG f.v f.L gl
 ne:gl≠q/\gl≠c/\gl≠b
theorem C5.block {w w':World} {g m:Nat} (h:C5 w g m) (hs:w.heap.size<=w'.heap.size) (hb:w'.heap[g]?=w.heap[g]?):C5 w' g m :=
 ⟨au h.1 hs,fun j hj=>by obtain⟨x,hx,hc⟩:=h.2 j hj;exact⟨x,hx,(World.cell?_of_block hb).trans hc⟩⟩
section
variable {w0:World} {c q:Nat} {A:Option Addr} {n cap:Nat} {x0:List cx} {x1:List cw} {x3:List R} {v0 v1 v3:Value} {L1:List Nat} {ts:cx} {pos tk:Int} {w w' wm w9:World} {v2 y:Value} {L L':List Nat} {x2 y2:List cr} {mm:Int} {le:List o7} {b gl m:Nat} {k t:Int} {vi v9 vk:Value} {its tG fO:List R}
theorem SO.aec (h:SO w0 c q A n cap x0 x1 x3 v0 v1 v3 L1 ts pos tk w v2 L x2 mm b k t vi vk its fO) (hm:U w wm) (hg:wm.grownBy w9 vi.ownBlock) (ho:dK w9 34 6 v9 [] (tG.map R.D)) (hn:∀x,v9.ownBlock=some x->vi.ownBlock=some x\/w.heap.size<=x):SM w0 c q A n cap x0 x1 x3 v0 v1 v3 L1 ts pos tk w9 v2 L x2 mm b k t vi v9 vk tG fO:=by
 have hs:=h.sq.gV.size
 have jZ:=hm.size
 have xX:=hg.size
 have hE:gL w0.heap.size w (((LA x0 x1 v0 v1 L1)++[EO v2 L x2,EV v3 x3])++EV vi its :: [EV vk fO]):=by simpa using h.sq.st.gv
 have jP:∀f,f∈((LA x0 x1 v0 v1 L1)++[EO v2 L x2,EV v3 x3])++[EV vk fO]->∀x,iG f.v f.L x->x<w.heap.size:=fun f hf x hx=>(h.sq.st.gv.own f bX).lt x hx
 have hE9:gL w0.heap.size w9 (((LA x0 x1 v0 v1 L1)++[EO v2 L x2,EV v3 x3])++EV v9 tG :: [EV vk fO]):=hE.Bl hm hg ho fun x hx=>by
  rcases hx with q | q
  ·
   exact Pm
  ·
   cases q
 have gf:∀f,f∈(LA x0 x1 v0 v1 L1)++EO v2 L x2 :: LG x3 v3 [EV v9 tG,EV vk fO]->f∈(LA x0 x1 v0 v1 L1)++EO v2 L x2 :: LG x3 v3 [EV vi its,EV vk fO]\/f=EV v9 tG:=fun f hf=>by simp at hf |-;grind
 have Pn:∀x,vi.ownBlock=some x->w0.heap.size<=x:=fun x hx=>h.sq.st.gv.low (EV vi its) aJ x (Or.inl hx)
 have WT:∀d,(∀f,f∈(LA x0 x1 v0 v1 L1)++EO v2 L x2 :: LG x3 v3 [EV vi its,EV vk fO]->¬iG f.v f.L d)->d<w.heap.size->(∀f,f∈(LA x0 x1 v0 v1 L1)++EO v2 L x2 :: LG x3 v3 [EV v9 tG,EV vk fO]->¬iG f.v f.L d):=fun d hd hl f hf=>by
  rcases gf f hf with q | rfl
  ·
   exact hd f q
  ·
   exact WU
 have same:∀d,d<w.heap.size->vi.ownBlock≠some d->w9.heap[d]?=w.heap[d]?:=fun d hd iP=>(hg.block d aF (fun q=>iP q.symm)).trans (Below.block hm d hd)
 have WV:=h.sq.st.box.1
 have zy:=h.ob.1
 have ga:vi.ownBlock≠some q:=fun e=>h.sq.st.low (EV vi its) aJ (Or.inl e)
 have TZ:vi.ownBlock≠some b:=fun e=>h.low (EV vi its) aJ (Or.inl e)
 have S9:SQ w0 c q A n cap x0 x1 x3 v0 v1 v3 L1 ts pos tk w9 v2 L x2 mm [EV v9 tG,EV vk fO]:=h.sq.via ⟨h.sq.st.box.block aF (same q WV ga),by simpa using hE9,WT q h.sq.st.low WV⟩ ⟨hg.os.trans hm.os,hg.tape.trans hm.tape,hg.output.trans hm.output,by omega⟩ (fun d hd=>same d aF (fun e=>by have:=Pn d e;omega)) h.sq.ok.2.2.1 h.sq.Kp
 exact⟨S9,h.ob.block aF (same b zy TZ),WT b h.low zy,h.DH,h.OR⟩
theorem SM.rT (h:SM w0 c q A n cap x0 x1 x3 v0 v1 v3 L1 ts pos tk w v2 L x2 mm b k t vi v9 vk its fO):SO w0 c q A n cap x0 x1 x3 v0 v1 v3 L1 ts pos tk (w.setCell ⟨b,3,none⟩ v9) v2 L x2 mm b k t v9 vk its fO:=⟨h.sq.Pk h.low h.DH 3 v9,h.ob.rT v9,h.low,h.DH,h.OR⟩
theorem SM.Lz (h:SM w0 c q A n cap x0 x1 x3 v0 v1 v3 L1 ts pos tk w v2 L x2 mm b k t vi v9 vk its fO):dK w 34 6 v9 [] (its.map R.D):=h.sq.st.gv.own (EV v9 its) aJ
theorem RG.on (h:RG q c x0 x1 x3 v0 v1 v3 L1 w v2 L x2 b vi vk its fO gl m) (k':U w w'):RG q c x0 x1 x3 v0 v1 v3 L1 w' v2 L x2 b vi vk its fO gl m:=⟨h.row.block k'.size (Below.block k' gl h.row.1),h.low,h.ne⟩
theorem RG.other (h:RG q c x0 x1 x3 v0 v1 v3 L1 w v2 L x2 b vi vk its fO gl m) (hf:w.heap.size<=w'.heap.size/\∀d,d<w.heap.size->d≠q->d≠c->v2.ownBlock≠some d->w'.heap[d]?=w.heap[d]?) (hx:∀x,iG y L' x->iG v2 L x\/w.heap.size<=x):RG q c x0 x1 x3 v0 v1 v3 L1 w' y L' y2 b vi vk its fO gl m:=by
 refine⟨h.row.block hf.1 (hf.2 gl h.row.1 h.ne.1 h.ne.2.1 (fun e=>h.low (EO v2 L x2) aJ (Or.inl e))),fun f hf hc=>?_,h.ne⟩
 have gf:f∈(LA x0 x1 v0 v1 L1)++EO v2 L x2 :: LG x3 v3 [EV vi its,EV vk fO]\/f=EO y L' y2:=bX
 rcases gf with q | rfl
 ·
  exact h.low f q hc
 ·
  rcases hx gl hc with q | q
  ·
   exact h.low (EO v2 L x2) aJ q
  ·
   have:=h.row.1;omega
theorem RG.grow (h:RG q c x0 x1 x3 v0 v1 v3 L1 w v2 L x2 b vi vk its fO gl m) (hm:U w wm) (hg:wm.grownBy w9 vi.ownBlock) (hn:∀x,v9.ownBlock=some x->vi.ownBlock=some x\/w.heap.size<=x):RG q c x0 x1 x3 v0 v1 v3 L1 w9 v2 L x2 b v9 vk tG fO gl m:=by
 have hz:=hm.size
 have xX:=hg.size
 have hl:=h.row.1
 refine⟨h.row.block aF ((hg.block gl aF (fun e=>h.low (EV vi its) aJ (Or.inl e.symm))).trans (Below.block hm gl hl)),fun f hf=>?_,h.ne⟩
 have gf:f∈(LA x0 x1 v0 v1 L1)++EO v2 L x2 :: LG x3 v3 [EV vi its,EV vk fO]\/f=EV v9 tG:=bX
 rcases gf with q | rfl
 ·
  exact h.low f q
 ·
  rintro (q | q)
  ·
   rcases hn gl q with q | q
   ·
    exact h.low (EV vi its) aJ (Or.inl q)
   ·
    omega
  ·
   cases q
theorem RG.set (h:RG q c x0 x1 x3 v0 v1 v3 L1 w v2 L x2 b vi vk its fO gl m) (o:Nat) (u:Value):RG q c x0 x1 x3 v0 v1 v3 L1 (w.setCell ⟨b,o,none⟩ u) v2 L x2 b vi vk its fO gl m:=⟨h.row.block aJ (dY o u (Ne.symm h.ne.2.2)),h.low,h.ne⟩
end
def Pt (w:World) (b:Nat):Nat:=match w.cell? ⟨b,3,none⟩with | some (.slice _ n _)=>n | _=>0
theorem Gw {w:World} {b n c:Nat} {A:Option Addr} (h:w.cell? ⟨b,3,none⟩=some (.slice A n c)):Pt w b=n:=by unfold Pt;rw[h]
abbrev EA (v:Value) (xs:List cV):o7:=⟨76,2,v,[],xs.map cV.D⟩
structure FQ (w0:World) (c q:Nat) (A:Option Addr) (n cap:Nat) (x0:List cx) (x1:List cw) (x3:List R) (v0 v1 v3:Value) (L1:List Nat) (ts:cx) (pos tk:Int) (w:World) (v2:Value) (L:List Nat) (x2:List cr) (mm:Int) (v8:Value) (x8:List cV):Prop where
 AM:kC w0 c A n cap
 cur:kC w c A n cap
 st:EY w0.heap.size w q v0 v1 v2 v3 (.string ts) (.int .i64 pos) ku ku v8 (.bool false) (.int .i64 tk) (.int .i64 400) (.int .i64 mm) (LA x0 x1 v0 v1 L1) [EV v3 x3,EA v8 x8] L (x2.map cr.D)
 ne:c<w0.heap.size/\w0.heap.size<=q
 gV:ic c w0 w
 ok:dT pos/\dT tk/\CY x2.length mm/\ts.size<=maxLen
 Kp:∀o,o∈x2->o.its.length<=100/\o.fO.length<=100
structure FH (w0:World) (c q:Nat) (A:Option Addr) (n cap:Nat) (w:World) (t:O):Prop where
 cur:kC w c A n cap
 gV:ic c w0 w
 ne:c<w0.heap.size/\w0.heap.size<=q
 st:cv w (fun b=>w0.heap.size<=b/\b≠q) q t
 fr:∀o,w.frozen? ⟨q,o,none⟩=false
def cr.Gx (tg:Int):cr->cr | .mk k _ s i y=>.mk k tg s i y
theorem LC {o:cr} {tg:Int} (h:o.its.length<=100/\o.fO.length<=100):(o.Gx tg).its.length<=100/\(o.Gx tg).fO.length<=100:=by cases o;exact h
theorem FH.xB {w0 w w':World} {c q:Nat} {A:Option Addr} {n cap:Nat} {t:O} (h:FH w0 c q A n cap w t) (k:ic c w w') (hc:kC w' c A n cap):FH w0 c q A n cap w' t :=
 ⟨hc,h.gV.trans k,h.ne,h.st.gV k (fun e=>by have:=h.ne.1;omega) (by have:=h.ne;omega),fun o=>(World.frozen?_of_block (k.block q h.st.1 (by have:=h.ne;omega))).trans (h.fr o)⟩
section
variable {w0:World} {c q:Nat} {A:Option Addr} {n cap:Nat} {x0:List cx} {x1:List cw} {x3:List R} {v0 v1 v3:Value} {L1:List Nat} {ts:cx} {pos tk:Int} {w w':World} {v2:Value} {L:List Nat} {x2:List cr} {mm:Int} {v8:Value} {x8:List cV}
theorem FQ.of (h:SQ w0 c q A n cap x0 x1 x3 v0 v1 v3 L1 ts pos tk w v2 L x2 mm []):FQ w0 c q A n cap x0 x1 x3 v0 v1 v3 L1 ts pos tk w v2 L x2 mm ku []:=by
 have hs:=h.gV.size
 have h1:gL w0.heap.size w (((LA x0 x1 v0 v1 L1)++EO v2 L x2 :: LG x3 v3 [])++[EA ku []]):=h.st.gv.snoc (U.refl w) (dK.nil w _ _) hs (fun x hx=>absurd hx (fun h=>dK.xZ h))
 refine⟨h.AM,h.cur,⟨h.st.box,by simpa using h1,fun f hf=>?_⟩,h.ne,h.gV,h.ok,h.Kp⟩
 rcases (show f∈(LA x0 x1 v0 v1 L1)++EO v2 L x2 :: LG x3 v3 []\/f=EA ku [] by simp at hf |-;grind)with q | rfl
 ·
  exact h.st.low f q
 ·
  exact fun hx=>dK.xZ hx
theorem FQ.act (h:SQ w0 c q A n cap x0 x1 x3 v0 v1 v3 L1 ts pos tk w v2 L x2 mm []) {k:Int} (hk:dT k):FQ w0 c q A n cap x0 x1 x3 v0 v1 v3 L1 ts pos tk ((w.alloc (.cells #[.int .i64 k,.int .i64 0] 76)).setCell ⟨q,8,none⟩ (.slice (some ⟨w.heap.size,0,none⟩) 1 1)) v2 L x2 mm (.slice (some ⟨w.heap.size,0,none⟩) 1 1) [.mk k 0]:=by
 have hs:=h.gV.size
 have hql:=h.st.box.1
 have hO:dK (w.alloc (.cells #[.int .i64 k,.int .i64 0] 76)) 76 2 (.slice (some ⟨w.heap.size,0,none⟩) 1 1) [] [(cV.mk k 0).D]:=dK.Pr w 76 (cV.kL hk lM) rfl List.nodup_nil
 obtain⟨wa,Ly⟩:∃x,w.alloc (.cells #[.int .i64 k,.int .i64 0] 76)=x:=⟨_,rfl⟩
 have hb:U w wa:=by rw[<-Ly];exact bl
 rw[Ly]at hO |-
 clear Ly
 have h0:=h.on hb
 have h1:gL w0.heap.size wa (((LA x0 x1 v0 v1 L1)++EO v2 L x2 :: LG x3 v3 [])++[EA (.slice (some ⟨w.heap.size,0,none⟩) 1 1) [.mk k 0]]):=h.st.gv.snoc hb hO hs (fun x hx=>by have:=hx.one;omega)
 have hl:∀f,f∈(LA x0 x1 v0 v1 L1)++EO v2 L x2 :: [EV v3 x3,EA (.slice (some ⟨w.heap.size,0,none⟩) 1 1) [.mk k 0]]->¬iG f.v f.L q:=fun f hf=>by
  rcases (show f∈(LA x0 x1 v0 v1 L1)++EO v2 L x2 :: LG x3 v3 []\/f=EA (.slice (some ⟨w.heap.size,0,none⟩) 1 1) [.mk k 0] by simp at hf |-;grind)with q | rfl
  ·
   exact h.st.low f q
  ·
   exact fun hx=>by have:=hx.one;omega
 have hB:Below q wa (wa.setCell ⟨q,8,none⟩ (.slice (some ⟨w.heap.size,0,none⟩) 1 1)):=Below.setCell (Below.refl q wa) (show q<=(⟨q,8,none⟩:Addr).block from Nat.le_refl q) _
 have iP:=h.ne
 have same:∀d,d≠q->(wa.setCell ⟨q,8,none⟩ (.slice (some ⟨w.heap.size,0,none⟩) 1 1)).heap[d]?=wa.heap[d]?:=fun d hd=>dY 8 _ (fun e=>hd e.symm)
 have h2:gL w0.heap.size wa ((LA x0 x1 v0 v1 L1)++EO v2 L x2 :: [EV v3 x3,EA (.slice (some ⟨w.heap.size,0,none⟩) 1 1) [.mk k 0]]):=by simpa using h1
 exact⟨h.AM,h.AM.low h0.cur h0.gV.size hB.size (fun d hd=>same d aF),⟨h0.st.box.IZ _,h2.Lu hl 8 _,hl⟩,h.ne,⟨hB.os.trans h0.gV.os,hB.tape.trans h0.gV.tape,hB.output.trans h0.gV.output,aw h0.gV.size hB.size,fun d hd hc=>(same d aF).trans (h0.gV.block d hd hc)⟩,h.ok,h.Kp⟩
theorem FQ.xB (h:FQ w0 c q A n cap x0 x1 x3 v0 v1 v3 L1 ts pos tk w v2 L x2 mm v8 x8) (k:ic c w w') (hc:kC w' c A n cap):FQ w0 c q A n cap x0 x1 x3 v0 v1 v3 L1 ts pos tk w' v2 L x2 mm v8 x8:=by
 exact WS
theorem Bp (h:FQ w0 c q A n cap x0 x1 x3 v0 v1 v3 L1 ts pos tk w v2 L x2 mm v8 x8) {wz:World} {y2:List cr} {A2:Option Addr} {c2:Nat} (oZ:v2=.slice A2 y2.length c2) (hr:Row wz (fun b=>w0.heap.size<=b/\b≠q) 5 A2 c2 (y2.map cr.D)) (mV:gp (fun b=>¬iG v2 L b) w wz):cv wz (fun b=>w0.heap.size<=b/\b≠q) q (O.mk x0 x1 y2 x3 ts pos [] [] x8 false tk 400 mm):=by
 have E:=h.st.gv
 have hp:=List.pairwise_append.1 E.sep
 have hp2:=List.pairwise_cons.1 hp.2.1
 have hS:∀f,f∈(LA x0 x1 v0 v1 L1)++EO v2 L x2 :: [EV v3 x3,EA v8 x8]->∀b,iG f.v f.L b->w0.heap.size<=b/\b≠q:=fun f hf b hb=>⟨E.low f hf b hb,fun e=>h.st.low f hf (e▸hb)⟩
 have iP:∀f,f∈(LA x0 x1 v0 v1 L1)++[EV v3 x3,EA v8 x8]->∀b,iG f.v f.L b->¬iG v2 L b:=fun f hf b hb hc=>by
  rcases List.mem_append.1 hf with q | q
  ·
   exact hp.2.2 f q (EO v2 L x2) aJ b hb hc
  ·
   exact hp2.1 f q b hc hb
 have up:∀f,f∈(LA x0 x1 v0 v1 L1)++[EV v3 x3,EA v8 x8]->dK wz f.E f.k f.v f.L f.ds:=fun f hf=>(E.own f bX).sC mV (iP f hf)
 obtain⟨A0,c0,e0,r0⟩:=(up ⟨9,1,v0,[],x0.map fun x=>[Y.str x]⟩ aJ).row (hS ⟨9,1,v0,[],x0.map fun x=>[Y.str x]⟩ aJ)
 obtain⟨A1,c1,e1,r1⟩:=(up ⟨109,3,v1,L1,x1.map cw.D⟩ aJ).row (hS ⟨109,3,v1,L1,x1.map cw.D⟩ aJ)
 obtain⟨A3,c3,e3,r3⟩:=(up (EV v3 x3) aJ).row (hS (EV v3 x3) aJ)
 obtain⟨A8,c8,e8,r8⟩:=(up (EA v8 x8) aJ).row (hS (EA v8 x8) aJ)
 have ad1:=h.st.box.block mV.size (mV.block q (fun e=>h.st.low (EO v2 L x2) aJ e) h.st.box.1)
 obtain⟨lP,l4,k0,k1,k2,k3,k4,k5,k6,k7,k8,k9,Uo,Up,Uq⟩:=ad1
 simp only[ar]at e0 e1 e3 e8
 have z:∀k,Row wz (fun b=>w0.heap.size<=b/\b≠q) k none 0 []:=fun k=>⟨Nat.le_refl _,Nat.zero_le _,fun h=>absurd rfl h⟩
 refine⟨lP,_,O.mG r0 r1 hr r3 h.ok.2.2.2 h.ok.1 (x6:=[]) (x7:=[]) (z 1) (z 1) r8 h.ok.2.1 aO h.ok.2.2.1.2.2,fun j hj=>?_⟩
 subst e0 e1 oZ e3 e8
 match j,hj with
 | 0,_=>exact k0
 | 1,_=>exact k1
 | 2,_=>exact k2
 | 3,_=>exact k3
 | 4,_=>exact k4
 | 5,_=>exact k5
 | 6,_=>exact k6
 | 7,_=>exact k7
 | 8,_=>exact k8
 | 9,_=>exact k9
 | 10,_=>exact Uo
 | 11,_=>exact Up
 | 12,_=>exact Uq
 | m+13,h=>omega
theorem FQ.aar (h:FQ w0 c q A n cap x0 x1 x3 v0 v1 v3 L1 ts pos tk w v2 L x2 mm v8 x8):dK w 81 5 v2 L (x2.map cr.D):=h.st.gv.own (EO v2 L x2) aJ
theorem FQ.fin (h:FQ w0 c q A n cap x0 x1 x3 v0 v1 v3 L1 ts pos tk w v2 L x2 mm v8 x8):FH w0 c q A n cap w (O.mk x0 x1 x2 x3 ts pos [] [] x8 false tk 400 mm):=by
 obtain⟨A2,c2,e2,r2⟩:=h.aar.row (S:=fun b=>w0.heap.size<=b/\b≠q) (fun b hb=>⟨h.st.gv.low (EO v2 L x2) aJ b hb,fun e=>h.st.low (EO v2 L x2) aJ (e▸hb)⟩)
 rw[ar]at e2
 exact⟨h.cur,h.gV,h.ne,Bp h e2 r2 (gp.refl _ w),h.st.box.2.1⟩
theorem FQ.tag (h:FQ w0 c q A n cap x0 x1 x3 v0 v1 v3 L1 ts pos tk w v2 L x2 mm v8 x8) {A2:Option Addr} {c2:Nat} (oZ:v2=.slice A2 x2.length c2) (j:Nat) (hj:j<x2.length) {tg:Int} (ht:dT tg) :
  ∃g o,A2=some ⟨g,o,none⟩/\g<w.heap.size/\(∀i,w.frozen? ⟨g,i,none⟩=false)/\(∃u,w.cell? ⟨g,o+j*5+1,none⟩=some (.int .i64 u))/\FH w0 c q A n cap (w.setCell ⟨g,o+j*5+1,none⟩ (.int .i64 tg)) (O.mk x0 x1 (x2.set j (x2[j].Gx tg)) x3 ts pos [] [] x8 false tk 400 mm):=by
 obtain⟨A',c',L',e',hr,DJ,hL'⟩:=h.aar.ownRow
 rw[ar]at e'
 obtain⟨rfl,rfl⟩:A2=A'/\c2=c':=by have:=oZ.symm.trans e';simpa using this
 obtain⟨g,o,La,Le,Lb,vs,rfl,hg,hf,rfl,tK,hlen,oV,ajL⟩:=hr.at j bA
 obtain⟨k,t,s,i,y,ex⟩:∃k t s i y,x2[j]=.mk k t s i y:=by cases x2[j];exact⟨_,_,_,_,_,rfl⟩
 rw[List.getElem_map,ex,cr.iM]at tK
 have hgb:iG v2 L g:=hL' g aJ
 have E9:g∉La++(Le++Lb):=(List.nodup_cons.1 DJ).1
 match vs,hlen,oV,tK with
 | [u0,u1,u2,u3,u4],_,oV,tK =>
  obtain⟨M0,M0',e0,p0,M1,M1',e1,p1,pr⟩:=tK
  have vx:w.cell? ⟨g,o+j*5+1,none⟩=some u1:=oV 1 aI
  obtain⟨q0,rfl,i1⟩:=Y.eZ.1 p1
  obtain⟨wz,mW⟩:∃x,w.setCell ⟨g,o+j*5+1,none⟩ (.int .i64 tg)=x:=⟨_,rfl⟩
  have hB:Below g w wz:=by rw[<-mW];exact Below.setCell (Below.refl g w) (show g<=(⟨g,o+j*5+1,none⟩:Addr).block from Nat.le_refl g) _
  have same:∀d,d≠g->wz.heap[d]?=w.heap[d]?:=fun d hd=>by rw[<-mW];exact dY _ _ (fun e=>hd e.symm)
  have Xd:∀d,d≠g->j4 w wz d:=fun d hd=>⟨fun o=>World.cell?_of_block (same d hd),fun o=>World.frozen?_of_block (same d hd)⟩
  have hgz:=h.st.gv.low (EO v2 L x2) aJ g hgb
  have Pu:g≠q:=fun e=>h.st.low (EO v2 L x2) aJ (e▸hgb)
  have hvz:Y.dh wz Le (cr.mk k tg s i y).D [u0,.int .i64 tg,u2,u3,u4]:=by
   rw[cr.iM]
   have hk:Y.dh wz Le [.int k,.int t,.int s,.row 6 (i.map R.D),.row 6 (y.map R.D)] [u0,.int .i64 t,u2,u3,u4]:=Y.dh.keep hB.size _ _ _ (fun d hd=>Xd d (fun e=>E9 (by rw[<-e];simp[hd]))) ⟨M0,M0',e0,p0,M1,M1',e1,p1,pr⟩
   obtain⟨N0,N0',f0,s0,N1,N1',f1,s1,sr⟩:=hk
   exact⟨N0,N0',f0,s0,N1,N1',f1,Y.eZ.2 ⟨(Y.eZ.1 s1).1,rfl,ht⟩,sr⟩
  have yc:=ajL wz (cr.mk k tg s i y).D [u0,.int .i64 tg,u2,u3,u4] hvz rfl hB.size (fun d hd=>Xd d (fun e=>E9 (by rw[<-e];rcases hd with hd | hd <;> simp[hd]))) (fun i=>by rw[<-mW];simp[hf]) (fun d hd=>by rw[<-mW];refine World.cell?_setCell_other _ _ _ _ ?_;intro e;injection e with e1 e2 e3;omega) (fun d hd=>by
   rw[<-mW]
   match d,hd with
   | 0,_=>rw[World.cell?_setCell_other (h:=fun e=>by injection e with e1 e2 e3;omega)];exact oV 0 aI
   | 1,_=>rw[World.cell?_setCell_same (h:=vx)];rfl
   | 2,_=>rw[World.cell?_setCell_other (h:=fun e=>by injection e with e1 e2 e3;omega)];exact oV 2 aI
   | 3,_=>rw[World.cell?_setCell_other (h:=fun e=>by injection e with e1 e2 e3;omega)];exact oV 3 aI
   | 4,_=>rw[World.cell?_setCell_other (h:=fun e=>by injection e with e1 e2 e3;omega)];exact oV 4 aI
   | m+5,h=>omega)
  have ajN:(x2.map cr.D).set j (cr.mk k tg s i y).D=(x2.set j (x2[j].Gx tg)).map cr.D:=by rw[List.map_set,ex];rfl
  rw[ajN]at yc
  have mV:gp (fun b=>¬iG v2 L b) w wz:=⟨hB.os,hB.tape,hB.output,hB.size,fun d hd _=>same d (fun e=>hd (e▸hgb))⟩
  have hrS:Row wz (fun b=>w0.heap.size<=b/\b≠q) 5 (some ⟨g,o,none⟩) c2 ((x2.set j (x2[j].Gx tg)).map cr.D):=yc.row (fun b hb=>⟨h.st.gv.low (EO v2 L x2) aJ b (hL' b hb),fun e=>h.st.low (EO v2 L x2) aJ (e▸hL' b hb)⟩)
  have iP:=h.ne
  refine⟨g,o,rfl,hg,hf,⟨t,vx⟩,?_⟩
  rw[mW]
  exact⟨h.AM.low h.cur h.gV.size hB.size (fun d hd=>same d aF),⟨hB.os.trans h.gV.os,hB.tape.trans h.gV.tape,hB.output.trans h.gV.output,aw h.gV.size hB.size,fun d hd hc=>(same d aF).trans (h.gV.block d hd hc)⟩,h.ne,Bp h (by rw[List.length_set];exact oZ) hrS mV,fun o=>(World.frozen?_of_block (same q (Ne.symm Pu))).trans (h.st.box.2.1 o)⟩
end
theorem Row.tail {w:World} {S:Nat->Prop} {A A':Option Addr} {cc c':Nat} {x2:List cr} (hr:Row w S 5 A cc (x2.map cr.D)) (hc:x2.length - 1<=c'/\c'<=maxLen) (hA:x2.length - 1≠0->∀g o,A=some ⟨g,o,none⟩->A'=some ⟨g,o+5,none⟩):Row w S 5 A' c' (x2.tail.map cr.D):=by
 refine⟨by rw[ar,List.length_tail];exact hc.1,hc.2,fun iP=>?_⟩
 match x2,hr,hA,iP with
 | [],_,_,iP=>exact absurd rfl iP
 | a :: r,hr,hA,iP =>
  have hr0:r≠[]:=fun e=>by subst e;exact iP rfl
  obtain⟨g,o,e,hS,hg,Pv⟩:=hr.2.2 aJ
  rw[List.map_cons]at Pv
  simp only[Y.fz]at Pv
  exact⟨g,o+5,hA (by simp only[aD,Nat.add_sub_cancel];exact fun e=>hr0 (List.length_eq_zero_iff.1 e)) g o e,hS,hg,Pv.2.2⟩
theorem FH.cut {w0 w:World} {c q:Nat} {A:Option Addr} {n cap:Nat} {x0:List cx} {x1:List cw} {x2:List cr} {x3:List R} {x4:cx} {x5:Int} {x6 x7:List cx} {x8:List cV} {x9:Bool} {F G Z:Int} (h:FH w0 c q A n cap w (O.mk x0 x1 x2 x3 x4 x5 x6 x7 x8 x9 F G Z)) (h0:kC w0 c A n cap) {A2 A':Option Addr} {c2 c':Nat} (I0:w.cell? ⟨q,2,none⟩=some (.slice A2 x2.length c2))
  (hc:c2<=maxLen->x2.length<=c2->x2.length - 1<=c'/\c'<=maxLen) (hA:x2.length<=c2->x2.length - 1≠0->∀g o,A2=some ⟨g,o,none⟩->A'=some ⟨g,o+5,none⟩):FH w0 c q A n cap (w.setCell ⟨q,2,none⟩ (.slice A' (x2.length - 1) c')) (O.mk x0 x1 x2.tail x3 x4 x5 x6 x7 x8 x9 F G Z):=by
 obtain⟨A0,c0,A1,c1,B2,d2,A3,c3,A6,c6,A7,c7,A8,c8,Pg,k0,k1,k2,k3,k4,k5,k6,k7,k8,k9,Uo,Up,Uq,r0,r1,r2,r3,i4,i5,r6,r7,r8,i10,i11,i12⟩:=cv.cells h.st
 have e2:=I0.symm.trans k2
 obtain⟨rfl,rfl⟩:A2=B2/\c2=d2:=by simpa using e2
 have mu:=r2.1
 rw[ar]at mu
 have hB:Below q w (w.setCell ⟨q,2,none⟩ (.slice A' (x2.length - 1) c')):=Below.setCell (Below.refl q w) (show q<=(⟨q,2,none⟩:Addr).block from Nat.le_refl q) _
 have same:∀d,d≠q->(w.setCell ⟨q,2,none⟩ (.slice A' (x2.length - 1) c')).heap[d]?=w.heap[d]?:=fun d hd=>dY 2 _ (fun e=>hd e.symm)
 have mV:gp (fun b=>w0.heap.size<=b/\b≠q) w (w.setCell ⟨q,2,none⟩ (.slice A' (x2.length - 1) c')):=⟨hB.os,hB.tape,hB.output,hB.size,fun d hd _=>same d hd.2⟩
 have iP:=h.ne
 have up:∀{k:Nat} {AA:Option Addr} {cc:Nat} {xs:List (List Y)},Row w (fun b=>w0.heap.size<=b/\b≠q) k AA cc xs->Row (w.setCell ⟨q,2,none⟩ (.slice A' (x2.length - 1) c')) (fun b=>w0.heap.size<=b/\b≠q) k AA cc xs:=fun hr=>Row.sC mV (fun _ hx=>hx) hr
 have td:∀j u,j≠2->w.cell? ⟨q,j,none⟩=some u->(w.setCell ⟨q,2,none⟩ (.slice A' (x2.length - 1) c')).cell? ⟨q,j,none⟩=some u:=fun j u hj hu=>by
  rw[World.cell?_setCell_other _ _ _ _ (fun e=>hj (by injection e with e1 e2 e3;omega))];exact hu
 refine⟨h0.low h.cur h.gV.size hB.size (fun d hd=>same d aF),⟨hB.os.trans h.gV.os,hB.tape.trans h.gV.tape,hB.output.trans h.gV.output,aw h.gV.size hB.size,fun d hd hc=>(same d aF).trans (h.gV.block d hd hc)⟩,h.ne,⟨by simpa using Pg,_,O.mG (up r0) (up r1) (up (Row.tail r2 (hc r2.2.1 mu) (hA mu))) (up r3) i4 i5 (up r6) (up r7) (up r8) i10 i11 i12,fun j hj=>?_⟩,fun o=>by simp[h.fr]⟩
 match j,hj with
 | 0,_=>exact td 0 _ aI k0
 | 1,_=>exact td 1 _ aI k1
 | 2,_=>rw[World.cell?_setCell_same (h:=k2),List.length_tail];rfl
 | 3,_=>exact td 3 _ aI k3
 | 4,_=>exact td 4 _ aI k4
 | 5,_=>exact td 5 _ aI k5
 | 6,_=>exact td 6 _ aI k6
 | 7,_=>exact td 7 _ aI k7
 | 8,_=>exact td 8 _ aI k8
 | 9,_=>exact td 9 _ aI k9
 | 10,_=>exact td 10 _ aI Uo
 | 11,_=>exact td 11 _ aI Up
 | 12,_=>exact td 12 _ aI Uq
 | m+13,h=>omega
theorem SB.fill {w:World} {b:Nat} {v0 v1 v2 v3 v4 v5 v6 v7 v8 v9 v10 v11 v12:Value} (h:SB w b v0 v1 v2 v3 v4 v5 v6 v7 v8 v9 v10 v11 v12) (u0 u1 u2 u3 u4 u5 u6 u7 u8 u9 rX rY qu:Value):SB (w.setCells b 0 [u0,u1,u2,u3,u4,u5,u6,u7,u8,u9,rX,rY,qu]) b u0 u1 u2 u3 u4 u5 u6 u7 u8 u9 rX rY qu :=
 ((((((((((((h.yR u0).xY u1).rV u2).rT u3).CZ u4).Ps u5).tC u6).LD u7).IZ u8).Uy u9).Kr rX).Ks rY).Gy qu
theorem jJ (b:Nat):∀(vs:List Value) (o:Nat) (w:World),vj b w (w.setCells b o vs)
 | [],o,w=>⟨rfl,rfl,rfl,rfl,fun _ _=>rfl⟩
 | v :: r,o,w=>by
  have h1:vj b w (w.setCell ⟨b,o,none⟩ v):=vj.set ⟨rfl,rfl,rfl,rfl,fun _ _=>rfl⟩ o v
  have h2:=jJ b r (o+1) (w.setCell ⟨b,o,none⟩ v)
  exact⟨h2.size.trans h1.size,h2.os.trans h1.os,h2.tape.trans h1.tape,h2.output.trans h1.output,fun k hk=>(h2.block k hk).trans (h1.block k hk)⟩
theorem FH.out {w w0 wx:World} {c q:Nat} {A:Option Addr} {n cap:Nat} {t:O} (hc:kC w c A n cap) (Gz:U w w0) (hz:w0.heap.size=w.heap.size+1) (h:FH w0 c q A n cap wx t) (us:List Value) {ds:List Y} {vs:List Value} (hv:Y.cA wx (fun b=>w0.heap.size<=b/\b≠q) ds vs) :
  Y.cA (wx.setCells w.heap.size 0 us) (fun b=>w.heap.size<=b) ds vs/\kC (wx.setCells w.heap.size 0 us) c A n cap/\ic c w (wx.setCells w.heap.size 0 us):=by
 have hB:=jJ w.heap.size us 0 wx
 have hs:=hB.size
 have jZ:=h.gV.size
 refine⟨(Y.cA.sC (S0:=fun b=>w0.heap.size<=b/\b≠q) ⟨hB.os,hB.tape,hB.output,by omega,fun d hd _=>hB.block d (by have:=hd.1;omega)⟩ (fun _ hx=>hx) hv).wide (fun b hb=>by have:=hb.1;omega),hc.low h.cur aF aF (fun d hd=>hB.block d aF),⟨hB.os.trans (h.gV.os.trans Gz.os),hB.tape.trans (h.gV.tape.trans Gz.tape),hB.output.trans (h.gV.output.trans Gz.output),by omega,fun d hd Pw=>(hB.block d aF).trans ((h.gV.block d aF Pw).trans (Below.block Gz d hd))⟩⟩
end Go.Proofs.YtjngkknbpfgdcaaGreatDoor
