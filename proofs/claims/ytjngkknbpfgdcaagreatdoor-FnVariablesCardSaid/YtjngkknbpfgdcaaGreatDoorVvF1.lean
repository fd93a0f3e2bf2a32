import Derived.Test.YtjngkknbpfgdcaaGreatDoorVvE13
set_option linter.unusedVariables false
set_option linter.unusedSimpArgs false
set_option maxRecDepth 100000
set_option maxHeartbeats 8000000
namespace Go.Proofs.YtjngkknbpfgdcaaGreatDoor
open Go.RowKit
structure ic (c:Nat) (w w':World):Prop where
 os:w'.os=w.os
 tape:w'.tape=w.tape
 output:w'.output=w.output
 size:w.heap.size<=w'.heap.size
 block:∀k,k<w.heap.size->k≠c->w'.heap[k]?=w.heap[k]?
namespace ic
theorem refl (c:Nat) (w:World):ic c w w:=⟨rfl,rfl,rfl,Nat.le_refl _,fun _ _ _=>rfl⟩
theorem dH {c:Nat} {w w':World} (h:U w w'):ic c w w':=⟨h.os,h.tape,h.output,U.size h,fun k hk _=>Below.block h k hk⟩
theorem trans {c:Nat} {a b d:World} (h:ic c a b) (k:ic c b d):ic c a d :=
 ⟨k.os.trans h.os,k.tape.trans h.tape,k.output.trans h.output,aw h.size k.size,fun i hi hc=>(k.block i (au hi h.size) hc).trans (h.block i hi hc)⟩
theorem drew {c:Nat} {a b:World} (h:ic c a b):ic c a b.drew:=⟨h.os,h.tape,h.output,h.size,h.block⟩
theorem drewN {c:Nat} {a b:World} (h:ic c a b) (n:Nat):ic c a (b.drewN n):=⟨h.os,h.tape,h.output,h.size,h.block⟩
theorem de {c:Nat} {w w0 w':World} (h:U w w0) (k:ic c w0 w') (hc:w.heap.size<=c):U w w' :=
 ⟨k.os.trans h.os,k.tape.trans h.tape,k.output.trans h.output,aw (U.size h) k.size,fun i hi=>(k.block i (au hi (U.size h)) aF).trans (Below.block h i hi)⟩
theorem set {c:Nat} {a b:World} (h:ic c a b) (o:Nat) (v:Value):ic c a (b.setCell ⟨c,o,none⟩ v):=by
 have hb:Below c b (b.setCell ⟨c,o,none⟩ v):=Below.setCell (Below.refl c b) (Nat.le_refl c) v
 refine h.trans ⟨hb.os,hb.tape,hb.output,hb.size,fun k hk hc=>?_⟩
 unfold World.setCell
 split
 all_goals
  show (b.heap.modify c _)[k]?=_
  rw[Array.getElem?_modify,if_neg (Ne.symm hc)]
theorem cell {c:Nat} {w w':World} (h:ic c w w') {b o:Nat} (hb:b<w.heap.size) (hc:b≠c):w'.cell? ⟨b,o,none⟩=w.cell? ⟨b,o,none⟩:=by
 unfold World.cell?
 rw[h.block b hb hc]
theorem frozen {c:Nat} {w w':World} (h:ic c w w') {b o:Nat} (hb:b<w.heap.size) (hc:b≠c):w'.frozen? ⟨b,o,none⟩=w.frozen? ⟨b,o,none⟩:=by
 unfold World.frozen?
 rw[h.block b hb hc]
end ic
def LN (w:World) (c:Nat) (A:Option Addr) (n:Nat):Prop :=
 n<=1048576/\(0<n->∃b o,A=some ⟨b,o,none⟩/\b<w.heap.size/\b≠c/\∀j,j<n->∃x:Nat,x<256/\w.cell? ⟨b,o+j,none⟩=some (.int .u8 (x:Int)))
theorem LN.on {w w':World} {c:Nat} {A:Option Addr} {n:Nat} (h:LN w c A n) (k:ic c w w'):LN w' c A n:=by
 refine⟨h.1,fun hn=>?_⟩
 obtain⟨b,o,hA,hb,hc,hj⟩:=h.2 hn
 refine⟨b,o,hA,au hb k.size,hc,fun j hl=>?_⟩
 obtain⟨x,hx,oV⟩:=hj j hl
 exact⟨x,hx,(k.cell hb hc).trans oV⟩
def kC (w:World) (c:Nat) (A:Option Addr) (n cap:Nat):Prop :=
 c<w.heap.size/\(∀o,w.frozen? ⟨c,o,none⟩=false)/\LN w c A n/\∃(i:Nat) (h:Int),i<=n/\w.cell? ⟨c,0,none⟩=some (.slice A n cap)/\w.cell? ⟨c,1,none⟩=some (.int .i64 i)/\w.cell? ⟨c,2,none⟩=some (.int .i64 h)
theorem kC.de {w w':World} {c:Nat} {A:Option Addr} {n cap:Nat} (h:kC w c A n cap) (k:U w w'):kC w' c A n cap:=by
 obtain⟨l,f,hB,i,x,hi,c0,c1,c2⟩:=h
 exact⟨au l (U.size k),fun o=>(k.IL c l o).trans (f o),hB.on (ic.dH k),i,x,hi,(k.box c l 0).trans c0,(k.box c l 1).trans c1,(k.box c l 2).trans c2⟩
theorem Fm (y:Int):0<=bits .and .i64 y 255/\bits .and .i64 y 255<=255:=by
 show 0<=IntKind.i64.wrap ((BitVec.ofInt 64 y &&& BitVec.ofInt 64 255).toNat:Int)/\IntKind.i64.wrap ((BitVec.ofInt 64 y &&& BitVec.ofInt 64 255).toNat:Int)<=255
 have h:(BitVec.ofInt 64 y &&& BitVec.ofInt 64 255).toNat<=255:=by
  rw[BitVec.toNat_and]
  exact aw Nat.and_le_right aI
 generalize (BitVec.ofInt 64 y &&& BitVec.ofInt 64 255).toNat=m at h
 rw[IntKind.wrap_i64]
 omega
def P4 (w:World) (c:Nat) (A:Option Addr) (n cap:Nat) (lo hi:Int) (e:Ending) (w':World):Prop :=
 ∃x:Int,lo<=x/\x<=hi/\e=.returned (.int .i64 x)/\kC w' c A n cap/\ic c w w'
theorem DQ (A:Option Addr) (n cap:Nat) (w:World) (hn:n<=1048576) (hB:∀c,w.heap.size<=c->LN w c A n) :
  Calls Tryz.prog 22 #[.slice A n cap] w fun e w'=>e=.returned (.pointer (some ⟨w.heap.size,0,none⟩))/\kC w' w.heap.size A n cap/\U w w':=by
 have HB:=I hB
 clear hB
 go_enter Tryz.func22,Tryz.ntmps22
 go_wp2_with (fail)
 go_loop [3,4] (fun hv iv=>∃(k:Nat) (h:Int),iv=.int .i64 k/\k<=n/\k<=4000/\hv=.int .i64 h) (fun _ iv=>n - (intOf iv).toNat)
 case atStart=>exact⟨0,_,rfl,by omega,by omega,rfl⟩
 case round =>
  obtain⟨k,h,rfl,k1,k2,rfl⟩:=hrel
  by_cases q:k<n
  ·
   have d1:decide ((k:Int)<(n:Int))=true:=aH
   by_cases q2:k<4000
   ·
    have d2:decide ((k:Int)<4000)=true:=aH
    obtain⟨-,hb⟩:=HB.out w.heap.size (Nat.le_refl _)
    obtain⟨b,o,rfl,dE,gC,hj⟩:=hb aF
    obtain⟨x,hx,oV⟩:=hj k q
    clear hj hb
    go_wp2_with (fail)
    go_round
    case rel=>exact⟨k+1,_,rfl,by omega,by omega,rfl⟩
    case measure=>simp[intOf];omega
   ·
    have d2:decide ((k:Int)<4000)=false:=aH
    exact XG
  ·
   have d1:decide ((k:Int)<(n:Int))=false:=aH
   exact XG
theorem kC.put {w w':World} {c:Nat} {A:Option Addr} {n cap:Nat} (h:kC w c A n cap) (k:ic c w w') (hf:∀o,w'.frozen? ⟨c,o,none⟩=false) (i:Nat) (x:Int) (hi:i<=n) (c0:w'.cell? ⟨c,0,none⟩=some (.slice A n cap)) (c1:w'.cell? ⟨c,1,none⟩=some (.int .i64 i)) (c2:w'.cell? ⟨c,2,none⟩=some (.int .i64 x)):kC w' c A n cap :=
 ⟨au h.1 k.size,hf,h.2.2.1.on k,i,x,hi,c0,c1,c2⟩
theorem pK (c:Nat) (A:Option Addr) (n cap:Nat) (w:World) (hc:kC w c A n cap) :
  Calls Tryz.prog 119 #[.pointer (some ⟨c,0,none⟩)] w (P4 w c A n cap 0 255):=by
 have HC:=I hc
 obtain⟨l,f,hB,i,h,hi,c0,c1,c2⟩:=hc
 have HB:=I hB
 clear hB
 by_cases q:i<n
 ·
  obtain⟨hn,hb⟩:=HB.out
  obtain⟨b,o,hA,dE,gC,hj⟩:=hb aF
  subst hA
  obtain⟨x,hx,oV⟩:=hj i q
  clear hj hb
  have d1:decide ((i:Int)<(n:Int))=true:=aH
  have i0:0<=(i:Int):=aF
  have i1:(i:Int)<(n:Int):=aF
  have Xk:c≠b:=Ne.symm gC
  go_enter Tryz.func119,Tryz.ntmps119
  go_wp2_with (fail)
  go_quiet (fail)
  go_wp2_with (fail)
  go_quiet (fail)
  go_wp2_with (fail)
  go_quiet (fail)
  go_wp2_with (fail)
  all_goals
   go_returns
   exact⟨_,(Fm _).1,(Fm _).2,rfl,HC.out.put aU (fun o=>by simp[f]) (i+1) (wrap64 (wrap64 (h*6364136223846793005)+1442695040888963407)) aF (by simp[c0,go_sem]) (by simp[c1,go_sem]) (by simp[c2,go_sem]),aU⟩
 ·
  have d1:decide ((i:Int)<(n:Int))=false:=aH
  go_enter Tryz.func119,Tryz.ntmps119
  go_wp2_with (fail)
  go_quiet (fail)
  go_wp2_with (fail)
  go_quiet (fail)
  go_wp2_with (fail)
  all_goals
   go_returns
   exact⟨_,(Fm _).1,(Fm _).2,rfl,HC.out.put aU (fun o=>by simp[f]) i (wrap64 (wrap64 (h*6364136223846793005)+1442695040888963407)) aF (by simp[c0,go_sem]) (by simp[c1,go_sem]) (by simp[c2,go_sem]),aU⟩
theorem P4.mono {w:World} {c:Nat} {A:Option Addr} {n cap:Nat} {lo hi lo' AF:Int} {e:Ending} {w':World} (h:P4 w c A n cap lo hi e w') (h1:lo'<=lo) (h2:hi<=AF):P4 w c A n cap lo' AF e w':=by
 obtain⟨x,a,b,r⟩:=h
 exact⟨x,by omega,by omega,r⟩
def lZ (m:Int):Int:=if m<=0 then 0 else m - 1
theorem yn {x m:Int} (hx:0<=x) (hm:0<m):0<=x.tmod m/\x.tmod m<=lZ m:=by
 rw[Int.tmod_eq_emod_of_nonneg hx]
 have h1:=Int.emod_nonneg x (show m≠0 by omega)
 have h2:=Int.emod_lt_of_pos x hm
 unfold lZ
 rw[if_neg aF]
 omega
theorem dN (m:Int) (c:Nat) (A:Option Addr) (n cap:Nat) (w:World) (hc:kC w c A n cap) (hm:dT m) :
  Calls Tryz.prog 75 #[.pointer (some ⟨c,0,none⟩),.int .i64 m] w (P4 w c A n cap 0 (lZ m)):=by
 unfold dT at hm
 have HC:=I hc
 clear hc
 by_cases h0:m<=0
 ·
  have hF:=I (show lZ m=0 by unfold lZ;rw[if_pos h0])
  go_enter Tryz.func75,Tryz.ntmps75
  go_wp2_with (fail)
  all_goals
   go_returns
   exact⟨0,by omega,by rw[hF.out];omega,rfl,HC.out,ic.refl _ _⟩
 have e0:¬m=0:=aF
 have e00:(m==0)=false:=by simp[e0]
 by_cases h1:m<=256
 ·
  go_enter Tryz.func75,Tryz.ntmps75
  go_wp2_with (go_at_call 119;refine (pK c A n cap _ HC.out).mono ?_;rintro e w1 ⟨x,x1,x2,rfl,pw,rS⟩;have mc:=I pw;have nW:=I rS;clear pw rS;have hR:=I (yn x1 (show 0<m by omega)))
  all_goals
   go_returns
   have hR:=hR.out
   rw[Int.tmod_eq_emod_of_nonneg aF]at hR
   exact⟨_,hR.1,hR.2,rfl,mc.out,nW.out⟩
 ·
  go_enter Tryz.func75,Tryz.ntmps75
  go_upto_region 6 with (go_at_call 119;refine (pK c A n cap _ HC.out).mono ?_;rintro e w1 ⟨x,x1,x2,rfl,pw,rS⟩;have mc:=I pw;have nW:=I rS;clear pw rS)
  go_upto_region 7 with (go_at_call 119;refine (pK c A n cap _ mc.out).mono ?_;rintro e w2 ⟨y,y1,y2,rfl,sR,qE⟩;have sD:=I sR;have nO:=I qE;clear sR qE)
  go_upto_region 8 with (go_at_call 119;refine (pK c A n cap _ sD.out).mono ?_;rintro e w3 ⟨z,z1,z2,rfl,XH,GP⟩;have xz:=I XH;have tq:=I GP;clear XH GP)
  go_upto_region 9 with (go_at_call 119;refine (pK c A n cap _ xz.out).mono ?_;rintro e w4 ⟨u,v1,v2,rfl,Pj,CX⟩;have Ge:=I Pj;have Gt:=I CX;clear Pj CX)
  have hR:=I (yn (x:=x*16777216+y*65536+z*256+u) (m:=m) aF aF)
  go_wp2_with (fail)
  all_goals
   go_returns
   have hR:=hR.out
   rw[Int.tmod_eq_emod_of_nonneg aF]at hR
   exact⟨_,hR.1,hR.2,rfl,Ge.out,((nW.out.trans nO.out).trans tq.out).trans Gt.out⟩
def XI (w:World) (c:Nat) (A:Option Addr) (n cap:Nat) (e:Ending) (w':World):Prop :=
 ∃x:Int,dT x/\e=.returned (.int .i64 x)/\kC w' c A n cap/\ic c w w'
def ae8 (w:World) (c:Nat) (A:Option Addr) (n cap:Nat) (e:Ending) (w':World):Prop :=
 ∃x:Bool,e=.returned (.bool x)/\kC w' c A n cap/\ic c w w'
def XJ (w:World) (c:Nat) (A:Option Addr) (n cap m:Nat) (e:Ending) (w':World):Prop :=
 ∃x:cx,x.size<=m/\e=.returned (.string x)/\kC w' c A n cap/\ic c w w'
theorem lQ (m:Int) (c:Nat) (A:Option Addr) (n cap:Nat) (w:World) (hc:kC w c A n cap) (hm:dT m) :
  Calls Tryz.prog 42 #[.pointer (some ⟨c,0,none⟩),.int .i64 m] w (ae8 w c A n cap):=by
 have HC:=I hc
 clear hc
 go_enter Tryz.func42,Tryz.ntmps42
 go_wp2_with (go_at_call 75;refine (dN m c A n cap _ HC.out hm).mono ?_;rintro e w1 ⟨x,x1,x2,rfl,pw,rS⟩;have mc:=I pw;have nW:=I rS;clear pw rS)
 all_goals
  go_returns
  exact⟨_,rfl,mc.out,nW.out⟩
def C5 (w:World) (g:Nat) (m:Nat):Prop:=g<w.heap.size/\∀j,j<m->∃x:Int,dT x/\w.cell? ⟨g,j,none⟩=some (.int .i64 x)
theorem C5.on {w w':World} {c g m:Nat} (h:C5 w g m) (k:ic c w w') (hg:g≠c):C5 w' g m :=
 ⟨au h.1 k.size,fun j hj=>by obtain⟨x,hx,hc⟩:=h.2 j hj;exact⟨x,hx,(k.cell h.1 hg).trans hc⟩⟩
theorem lR {w:World} {t:TypeId} (xs:List Int) (h:xs.all (fun x=>decide (-9223372036854775808<=x)&&decide (x<=9223372036854775807))=true):C5 (w.alloc (.cells (xs.map (Value.int .i64)).toArray t)) w.heap.size xs.length:=by
 refine⟨by simp,fun j hj=>⟨xs[j],?_,?_⟩⟩
 ·
  have:=List.all_eq_true.1 h xs[j] (List.getElem_mem hj)
  simpa[dT]using this
 ·
  exact XK
theorem qS (g m cap':Nat) (c:Nat) (A:Option Addr) (n cap:Nat) (w:World) (hc:kC w c A n cap) (hr:C5 w g m) (hg:g≠c) (h0:0<m) (h1:m<=1000) :
  Calls Tryz.prog 78 #[.pointer (some ⟨c,0,none⟩),.slice (some ⟨g,0,none⟩) m cap'] w (XI w c A n cap):=by
 have HC:=I hc
 have HR:=I hr
 clear hc hr
 have hb:=I (show lZ (m:Int)=m - 1 by unfold lZ;rw[if_neg aF])
 go_enter Tryz.func78,Tryz.ntmps78
 exact XL
theorem zC (c:Nat) (A:Option Addr) (n cap:Nat) (w:World) (hc:kC w c A n cap) :
  Calls Tryz.prog 134 #[.pointer (some ⟨c,0,none⟩)] w (XI w c A n cap):=by
 have HC:=I hc
 have jP:=hc.1
 clear hc
 go_enter Tryz.func134,Tryz.ntmps134
 go_upto_region 2 with (go_at_call 75;refine (dN 3 c A n cap _ HC.out aO).mono ?_;rintro e w1 ⟨x,x1,x2,rfl,pw,rS⟩;have mc:=I pw;have nW:=I rS;clear pw rS)
 have zx:=nW.out.size
 rcases (show x=0\/x=1\/x=2 by have:lZ 3=2:=rfl;omega)with rfl | rfl | rfl
 ·
  go_wp2_with (go_at_call 78;refine (qS w1.heap.size 12 12 c A n cap _ (mc.out.de bl) (lR [0,1,-1,9,10,999999,1000000,999999999999,1000000000000,-999999999999,9223372036854775807,-9223372036854775808] aI) (by have:=mc.out.1;omega) aF aF).mono ?_;rintro e w2 ⟨y,hy,rfl,sR,qE⟩;have sD:=I sR;have nO:=I qE;have hy':=I hy;clear sR qE hy)
  all_goals
   go_returns
   exact⟨_,hy'.out,rfl,sD.out,nW.out.trans (ic.trans (ic.dH bl) nO.out)⟩
 ·
  go_wp2_with (go_at_call 75;refine (dN 1000000 c A n cap _ mc.out aO).mono ?_;rintro e w2 ⟨y,y1,y2,rfl,sR,qE⟩;have sD:=I sR;have nO:=I qE;clear sR qE;have y3:y<=999999:=y2;clear y2)
  all_goals
   go_returns
   exact⟨_,by unfold dT;omega,rfl,sD.out,nW.out.trans nO.out⟩
 ·
  go_wp2_with (go_at_call 75;refine (dN 20 c A n cap _ mc.out aO).mono ?_;rintro e w2 ⟨y,y1,y2,rfl,sR,qE⟩;have sD:=I sR;have nO:=I qE;clear sR qE;have y3:y<=19:=y2;clear y2)
  all_goals
   go_returns
   exact⟨_,by unfold dT;omega,rfl,sD.out,nW.out.trans nO.out⟩
def P5 (w:World) (g:Nat) (m K:Nat):Prop:=g<w.heap.size/\∀j,j<m->∃x:cx,x.size<=K/\w.cell? ⟨g,j,none⟩=some (.string x)
theorem P5.on {w w':World} {c g m K:Nat} (h:P5 w g m K) (k:ic c w w') (hg:g≠c):P5 w' g m K :=
 ⟨au h.1 k.size,fun j hj=>by obtain⟨x,hx,hc⟩:=h.2 j hj;exact⟨x,hx,(k.cell h.1 hg).trans hc⟩⟩
theorem rW {w:World} {t:TypeId} (K:Nat) (xs:List cx) (h:xs.all (fun x=>decide (x.size<=K))=true):P5 (w.alloc (.cells (xs.map Value.string).toArray t)) w.heap.size xs.length K:=by
 refine⟨by simp,fun j hj=>⟨xs[j],?_,?_⟩⟩
 ·
  have:=List.all_eq_true.1 h xs[j] (List.getElem_mem hj)
  simpa using this
 ·
  exact XK
theorem nQ (g m K cap':Nat) (c:Nat) (A:Option Addr) (n cap:Nat) (w:World) (hc:kC w c A n cap) (hr:P5 w g m K) (hg:g≠c) (h0:0<m) (h1:m<=1000) :
  Calls Tryz.prog 74 #[.pointer (some ⟨c,0,none⟩),.slice (some ⟨g,0,none⟩) m cap'] w (XJ w c A n cap K):=by
 have HC:=I hc
 have HR:=I hr
 clear hc hr
 have hb:=I (show lZ (m:Int)=m - 1 by unfold lZ;rw[if_neg aF])
 go_enter Tryz.func74,Tryz.ntmps74
 exact XL
theorem Tryz.aaT:(Tryz.prog.info? 5).map (fun i=>(i.zero,i.size,i.bytes))=some (some (.int .u8 0),1,1):=by kernel_rfl
theorem P6 (m:Nat) (pad:Nat) (hp:pad<256) (wr:World) (base:Nat) (v:Value) (h:wr.ownsRow base 5 1 v m (List.replicate m (Value.int .u8 (pad:Int)))) :
  (convert 22 9 v).run Tryz.prog wr=.ok (.string ⟨(List.replicate m (UInt8.ofNat pad)).toArray⟩) wr:=by
 have h':=h
 rcases h.2 with⟨rfl,h0⟩ | ⟨g,cap,cur,rfl,hg⟩
 ·
  have e:m=0:=by simpa using h0
  subst e
  rw[Lib.run_convert_nil_bytes wr 22 9 5 0 Tryz.underlying22 Tryz.underlying5 Tryz.underlying9]
  rfl
 ·
  have hB:=run_convert_bytes_back (P:=Tryz.prog) wr 22 9 5 ⟨g,0,none⟩ cap (List.replicate m (UInt8.ofNat pad)) Tryz.underlying22 Tryz.underlying5 Tryz.underlying9 (fun j hj=>by
   have UP:j<m:=bA
   rw[h'.cells rfl j (.int .u8 (pad:Int)) (by simp[UP])]
   rw[List.getElem_replicate,UInt8.toNat_ofNat']
   congr 2
   omega)
  rw[List.length_replicate]at hB
  exact hB
theorem Mb (m:Int) (pad:Nat) (w:World) (h0:0<=m) (h1:m<=200) (hp:pad<256) :
  Calls Tryz.prog 132 #[.int .i64 m,.int .u8 pad] w fun e w'=>e=.returned (.string ⟨(List.replicate m.toNat (UInt8.ofNat pad)).toArray⟩)/\U w w':=by
 obtain⟨M,rfl⟩:=Int.eq_ofNat_of_zero_le h0
 rw[Int.toNat_natCast]
 obtain⟨i0,jh,iz0,iz1,iz2⟩:=info_parts Tryz.aaT
 go_enter Tryz.func132,Tryz.ntmps132
 go_wp2_with (fail)
 go_loopw [5,6] (fun v i wr=>∃k:Nat,i=.int .i64 k/\k<=M/\wr.ownsRow w.heap.size 5 1 v k (List.replicate k (Value.int .u8 (pad:Int)))/\U w wr) (fun _ i _=>M - (intOf i).toNat)
 case atStart =>
  have ho:=World.ownsRow_made (base:=w.heap.size) (e:=5) (size:=1) w #[] 0 aJ aI rfl
  exact⟨0,rfl,by omega,ho,bl⟩
 case round =>
  obtain⟨k,rfl,hk,lu,dX⟩:=hrel
  by_cases h:k<M
  ·
   have hd:decide ((k:Int)<(M:Int))=true:=aH
   go_wp2_with (at_builtin;go_loud (refine wpList_append_own _ rfl _ _ 22 rfl w.heap.size 5 i0 (.int .u8 0) 1 1 Tryz.underlying22 jh iz0 iz1 iz2 rfl aI _ _ _ rfl (lu.alloc _) ⟨wr.heap.size,0,none⟩ 1 1 [.int .u8 pad] rfl rfl ?c1 ?c2 ?c3 ?c4 ?c5 ?_))
   case c1 =>
    intro j u hj
    match j,hj with
    | 0,hj=>simp at hj;subst hj;simp[Addr.add]
   case c2=>intro u hu;simp at hu;subst hu;rfl
   case c3=>unfold maxLen;omega
   case c4=>omega
   case c5=>have:=dX.size;simp;omega
   intro v' w2 GQ zD _
   have tU:U w w2:=Below.grown (U.alloc dX _) zD (by have:=dX.size;simp;omega) (fun q hq=>by have:=(lu.lt q hq).1;omega)
   have P7:w2.ownsRow w.heap.size 5 1 v' (k+1) (List.replicate (k+1) (Value.int .u8 (pad:Int))):=by
    rw[List.replicate_succ'];exact GQ
   clear zD GQ lu
   go_wp2_with (fail)
   exact⟨⟨k+1,rfl,by omega,P7,tU⟩,by simp only[intOf];omega⟩
  ·
   obtain rfl:k=M:=by omega
   have hd:decide ((k:Int)<(k:Int))=false:=aJ
   have hT:=P6 k pad hp wr _ _ lu
   go_wp2_with (fail)
   all_goals
    go_returns
    exact⟨rfl,bl⟩
theorem Jf (c:Nat) (A:Option Addr) (n cap:Nat) (w:World) (hc:kC w c A n cap) :
  Calls Tryz.prog 98 #[.pointer (some ⟨c,0,none⟩)] w (XJ w c A n cap 160):=by
 have HC:=I hc
 have jP:=hc.1
 clear hc
 go_enter Tryz.func98,Tryz.ntmps98
 go_upto_region 2 with (go_at_call 74;refine (nQ w.heap.size 12 20 12 c A n cap _ (HC.out.de bl) (rW 20 [⟨#[]⟩,⟨#[97]⟩,⟨#[98]⟩,⟨#[97,98]⟩,⟨#[97,98,99]⟩,⟨#[98,97,110,97,110,97]⟩,⟨#[104,101,108,108,111,44,32,119,111,114,108,100]⟩,⟨#[97,44,98,44,44,99]⟩,⟨#[49,43,50,42,51]⟩,⟨#[40,40,41,41]⟩,⟨#[32,120,32]⟩,⟨#[114,97,99,101,99,97,114]⟩] bP) aF aF aF).mono ?_;rintro e w1 ⟨x,hx,rfl,pw,rS⟩;have mc:=I pw;have nW:=I rS;clear pw rS)
 go_upto_region 3 with (go_at_call 42;refine (lQ 12 c A n cap _ mc.out aO).mono ?_;rintro e w2 ⟨y,rfl,sR,qE⟩;have sD:=I sR;have nO:=I qE;clear sR qE)
 rotate_left
 ·
  go_returns
  exact⟨x,by omega,rfl,sD.out,ic.trans (ic.trans (ic.dH bl) nW.out) nO.out⟩
 ·
  go_wp2_with (first
   | (go_at_call 75;refine (dN 4 c A n cap _ sD.out aO).mono ?_;rintro e w3 ⟨z,z1,z2,rfl,XH,GP⟩;have xz:=I XH;have tq:=I GP;clear XH GP;have z3:z<=3:=z2;clear z2)
   | (go_at_call 132;refine (Mb (118 - (x.size:Int)+z) 113 _ aF aF aF).mono ?_;rintro e w4 ⟨rfl,sU⟩;have HP:=I (show (⟨(List.replicate (118 - (x.size:Int)+z).toNat (UInt8.ofNat 113)).toArray⟩:cx).size<=121 by show (List.replicate _ _).toArray.size<=_;simp;omega);have Hb4:=I sU;clear sU;generalize (⟨(List.replicate (118 - (x.size:Int)+z).toNat (UInt8.ofNat 113)).toArray⟩:cx)=pd at HP |-;have hpd:=HP.out))
  all_goals
   go_returns
   exact⟨_,by rw[ByteArray.size_append];have:=HP.out;omega,rfl,xz.out.de Hb4.out,ic.trans (ic.trans (ic.trans (ic.trans (ic.dH bl) nW.out) nO.out) tq.out) (ic.dH Hb4.out)⟩
theorem tF (n:Int):dT (IntKind.i64.wrap n):=by unfold dT;rw[IntKind.wrap_i64];omega
theorem GR {lo:Int} (b:Nat) (h:dT lo):dT (vA lo b):=by unfold vA;split;exact PK _ _;exact h
theorem GS {hi:Int} (b:Nat) (h:dT hi):dT (vB hi b):=by unfold vB;split;exact h;exact PK _ _
theorem P8 (s:cx):∀(f i:Nat) (lo hi:Int) (p:Int × Int),dT lo->dT hi->Xp s f i lo hi=some p->dT p.1/\dT p.2
 | 0,i,lo,hi,p,h1,h2,h=>by
  simp only[Xp,Option.some.injEq]at h
  subst h;exact⟨h1,h2⟩
 | f+1,i,lo,hi,p,h1,h2,h=>by
  rw[Xp]at h
  split at h
  ·
   exact P8 s f (i+1) _ _ p (GR _ h1) (GS _ h2) h
  ·
   cases h
theorem Xc (s:cx):dT (E4 s)/\dT (E5 s):=by
 unfold E4 E5
 have h0:dT 0:=aO
 cases h:ns s 0 0 0 with
 | none=>exact⟨h0,h0⟩
 | some p=>exact P8 s _ 0 0 0 p h0 h0 h
def Vg (w:World) (e:Ending) (w':World):Prop:=∃(lo hi:Int) (b:Bool),dT lo/\dT hi/\e=.returned (.tuple #[.agg #[.int .i64 lo,.int .i64 hi],.bool b])/\U w w'
theorem BJ (f u:Nat) (w:World) (hf:f<256) (hu:u<256) (h1:f<=u) (h2:u<=127) :
  Calls Tryz.prog 135 #[.int .u8 f,.int .u8 u] w (Vg w):=by
 have w8:∀k:Nat,k<=u->IntKind.u8.wrap (k:Int)=k:=fun k hk=>by rw[IntKind.wrap_u8];omega
 have W8:=I w8
 clear w8
 have d1:decide (u<f)=false:=aH
 have d2:decide ((127:Int)<(u:Int))=false:=aH
 have d3:¬u<f:=aF
 go_enter Tryz.func135,Tryz.ntmps135
 go_wp2_with (fail)
 go_loopw [7] (fun i wr=>∃(k:Nat) (lo hi:Int),i=.int .i64 k/\k<=u+1/\dT lo/\dT hi/\nk wr w.heap.size 0 0/\nk wr (w.heap.size+1) lo hi/\U w wr) (fun i _=>u+1 - (intOf i).toNat)
 case atStart=>exact⟨f,0,0,rfl,by omega,by unfold dT;omega,by unfold dT;omega,⟨by simp,by simp,by simp,by simp,by simp;omega⟩,⟨by simp,by simp,by simp,by simp,by simp⟩,bl⟩
 case round =>
  obtain⟨k,lo,hi,rfl,hk,yM,hhi,cp,C,dX⟩:=hrel
  have ae9:=I yM
  have afa:=I hhi
  clear yM hhi
  have R':=cp
  have C':=C
  obtain⟨r0,r1,r2,r3,r4⟩:=R'
  obtain⟨c0,c1,c2,c3,c4⟩:=C'
  by_cases q:k<=u
  ·
   have hw:=W8.out k q
   have hd:decide ((k:Int)<=(u:Int))=true:=aH
   go_wp2_with (go_at_call 144;refine (zB lo hi k _ aF).mono ?_;rintro e w3 ⟨rfl,jx⟩;have R3:=cp.on jx;have C3:=C.on jx;obtain⟨c0,c1,c2,c3,c4⟩:=C3)
   have R4:=R3.apart (b':=w.heap.size+1) aF (.int .i64 (vA lo k)) (.int .i64 (vB hi k))
   have C4:=nk.put (⟨c0,c1,c2,c3,c4⟩:nk w3 (w.heap.size+1) lo hi) (vA lo k) (vB hi k)
   exact⟨⟨k+1,_,_,rfl,by omega,GR _ ae9.out,GS _ afa.out,R4,C4,bl⟩,by simp only[intOf];omega⟩
  ·
   have hd:decide ((k:Int)<=(u:Int))=false:=aH
   go_wp2_with (fail)
   have D:=cp.put lo hi
   obtain⟨d0,d1,d2,d3,d4⟩:=D
   exact bodyPost_ret (v:=.tuple #[.agg #[.int .i64 lo,.int .i64 hi],.bool true]) (by simp[results,Tryz.results135,d0,d1,go_sem];try rfl) rfl ⟨lo,hi,true,ae9.out,afa.out,rfl,bl⟩
theorem ti (a0 a1 b0 b1:Int) (w:World) :
  Calls Tryz.prog 136 #[.agg #[.int .i64 a0,.int .i64 a1],.agg #[.int .i64 b0,.int .i64 b1]] w fun e w'=>e=.returned (.agg #[.int .i64 (bits .andNot .i64 a0 b0),.int .i64 (bits .andNot .i64 a1 b1)])/\U w w':=by
 go_enter Tryz.func136,Tryz.ntmps136
 go_wp2
 go_returns
 exact⟨rfl,bl⟩
def Mc (x:Int):Int:=bits .xor .i64 (-1) x
theorem C9 (lo hi:Int) (w:World) :
  Calls Tryz.prog 133 #[.agg #[.int .i64 lo,.int .i64 hi]] w fun e w'=>e=.returned (.agg #[.int .i64 (Mc lo),.int .i64 (Mc hi)])/\U w w':=by
 go_enter Tryz.func133,Tryz.ntmps133
 go_wp2
 go_returns
 exact⟨rfl,bl⟩
theorem BK {P:Program} {c:Code} {Q:Exit->Act->World->Prop} {a:Act} {W:World} (h:∀w2,U W w2->Code.wp P c Q a w2):Code.wp P c Q a W:=h W (U.refl W)
def afb (w:World) (c:Nat) (A:Option Addr) (n cap:Nat) (e:Ending) (w':World):Prop :=
 ∃lo hi:Int,dT lo/\dT hi/\e=.returned (.agg #[.int .i64 lo,.int .i64 hi])/\kC w' c A n cap/\ic c w w'
theorem nk.gV {w w':World} {b c:Nat} {x y:Int} (h:nk w b x y) (hb:ic c w w') (hn:b≠c):nk w' b x y :=
 ⟨(hb.cell h.2.2.2.2 hn).trans h.1,(hb.cell h.2.2.2.2 hn).trans h.2.1,(hb.frozen h.2.2.2.2 hn).trans h.2.2.1,(hb.frozen h.2.2.2.2 hn).trans h.2.2.2.1,au h.2.2.2.2 hb.size⟩
theorem nk.new {w:World} {t:TypeId} {x y:Int}:nk (w.alloc (.cells #[.int .i64 x,.int .i64 y] t)) w.heap.size x y:=⟨by simp,by simp,by simp,by simp,by simp⟩
theorem ic.rV {c:Nat} {w w':World} {b:Nat} (h:ic c w w') (hb:w.heap.size<=b) (u v:Value):ic c w ((w'.setCell ⟨b,0,none⟩ u).setCell ⟨b,1,none⟩ v):=by
 have k:Below w.heap.size w' ((w'.setCell ⟨b,0,none⟩ u).setCell ⟨b,1,none⟩ v):=Below.setCell (Below.setCell (Below.refl _ _) hb u) hb v
 exact⟨k.os.trans h.os,k.tape.trans h.tape,k.output.trans h.output,aw h.size k.size,fun i hi hc=>(k.block i hi).trans (h.block i hi hc)⟩
theorem kC.fin {w w5 w':World} {c:Nat} {A:Option Addr} {n cap:Nat} (h0:kC w c A n cap) (h5:kC w5 c A n cap) (k:ic c w w') (hs:∀o,w'.cell? ⟨c,o,none⟩=w5.cell? ⟨c,o,none⟩) (hf:∀o,w'.frozen? ⟨c,o,none⟩=w5.frozen? ⟨c,o,none⟩):kC w' c A n cap:=by
 obtain⟨l,f,hB,i,x,hi,c0,c1,c2⟩:=h5
 exact h0.put k (fun o=>(hf o).trans (f o)) i x hi ((hs 0).trans c0) ((hs 1).trans c1) ((hs 2).trans c2)
theorem kC.Vh {w w5:World} {c b:Nat} {A:Option Addr} {n cap:Nat} {u v:Value} (h0:kC w c A n cap) (h5:kC w5 c A n cap) (k:ic c w w5) (hb:w.heap.size<=b) (hn:b≠c):kC ((w5.setCell ⟨b,0,none⟩ u).setCell ⟨b,1,none⟩ v) c A n cap :=
 kC.fin h0 h5 (k.rV hb u v) (fun o=>by rw[World.cell?_setCell_far _ _ _ _ hn,World.cell?_setCell_far _ _ _ _ hn]) (fun o=>by simp)
theorem Jg (c:Nat) (A:Option Addr) (n cap:Nat) (w:World) (hc:kC w c A n cap) :
  Calls Tryz.prog 100 #[.pointer (some ⟨c,0,none⟩)] w (afb w c A n cap):=by
 have HC:=I hc
 have jP:=hc.1
 have iP:w.heap.size≠c:=aF
 clear hc
 go_enter Tryz.func100,Tryz.ntmps100
 go_upto_region 2 with (first
  | (go_at_call 74;refine (nQ (w.heap.size+1) 8 20 8 c A n cap _ (HC.out.de bl) (by have h:=rW (w:=w.alloc (.cells #[.int .i64 0,.int .i64 0] 32)) (t:=9) 20 [⟨#[]⟩,⟨#[97]⟩,⟨#[97,98,99]⟩,⟨#[120,121,122]⟩,⟨#[48,49,50,51,52,53,54,55,56,57]⟩,⟨#[97,101,105,111,117]⟩,⟨#[0,63,64,127]⟩,⟨#[32,9,10]⟩] bP;rw[World.size_alloc]at h;exact h) aF aF aF).mono ?_;rintro e w1 ⟨x,hx,rfl,pw,rS⟩;have mc:=I pw;have nW:=I (ic.trans (ic.dH (c:=c) (w:=w) bl) rS);have R1:=I (nk.gV (nk.on nk.new bl) rS iP);clear pw rS)
  | (go_at_call 120;refine (sT x _ bE).mono ?_;rintro e w2 ⟨rfl,gC⟩;have hI:=Xc x;have hI1:=I hI.1;have hI2:=I hI.2;clear hI;generalize E4 x=lo at hI1 |-;generalize E5 x=hi at hI2 |-;generalize IX x=okx))
 refine BK fun w3 jx=>?_
 have Vi:U w1 w3:=U.trans (U.alloc gC _) jx
 have X3:=I (nk.on nk.new jx)
 have R3:=I (R1.out.on Vi)
 have xz:=I (mc.out.de Vi)
 have tq:=I (nW.out.trans (ic.dH Vi))
 have Ba:w.heap.size<=w2.heap.size:=aw nW.out.size gC.size
 have hsc:w2.heap.size≠c:=by have:=mc.out.1;have:=gC.size;omega
 have mi:w2.heap.size≠w.heap.size:=by have:=R1.out.2.2.2.2;have:=gC.size;omega
 clear gC jx Vi R1 mc nW
 go_upto_region 3 with (go_at_call 75;refine (dN 5 c A n cap _ xz.out aO).mono ?_;rintro e w4 ⟨y,y1,y2,rfl,Pj,CX⟩;have Ge:=I Pj;have X4:=I (X3.out.gV CX hsc);have R4:=I (R3.out.gV CX iP);have Gt:=I (tq.out.trans CX);clear Pj CX)
 have hR:=R4.out
 obtain⟨r0,r1,r2,r3,r4⟩:=hR
 have hX:=X4.out
 obtain⟨x0,x1,x2,x3,x4⟩:=hX
 rcases (show y=0\/y=1\/y=2\/(¬y=0/\¬y=1/\¬y=2) by omega)with rfl | rfl | rfl | ⟨q0,q1,q2⟩
 ·
  go_wp2_with (go_at_call 133;refine (C9 lo hi _).mono ?_;rintro e w5 ⟨rfl,xA⟩;have R5:=I (R4.out.on xA);have hR5:=R5.out;obtain⟨r0,r1,r2,r3,r4⟩:=hR5;have Um:=I (Ge.out.de xA);have py:=I (Gt.out.trans (ic.dH xA));clear xA)
  have D:=R5.out.put (Mc lo) (Mc hi)
  obtain⟨d0,d1,d2,d3,d4⟩:=D
  exact bodyPost_ret (v:=.agg #[.int .i64 (Mc lo),.int .i64 (Mc hi)]) bC rfl ⟨_,_,tF _,tF _,rfl,kC.Vh HC.out Um.out py.out (Nat.le_refl _) iP,py.out.rV (Nat.le_refl _) _ _⟩
 ·
  go_wp2_with (first
   | ((with_reducible refine (zC c A n cap w4 Ge.out).mono ?_);rintro e w5 ⟨y5,hy5,rfl,XM,Gl⟩;have akD:=I hy5;have Um:=I XM;have R5:=I (R4.out.gV Gl iP);have py:=I (Gt.out.trans Gl);clear hy5 XM Gl)
   | ((with_reducible refine (zC c A n cap w5 Um.out).mono ?_);rintro e w6 ⟨y6,hy6,rfl,hC6,KC⟩;have akE:=I hy6;have HC6:=I hC6;have R6:=I (R5.out.gV KC iP);have HO6:=I (py.out.trans KC);have hR6:=R6.out;obtain⟨r0,r1,r2,r3,r4⟩:=hR6;clear hy6 hC6 KC))
  have D:=R6.out.put y5 y6
  obtain⟨d0,d1,d2,d3,d4⟩:=D
  exact bodyPost_ret (v:=.agg #[.int .i64 y5,.int .i64 y6]) bC rfl ⟨_,_,akD.out,akE.out,rfl,kC.Vh HC.out HC6.out HO6.out (Nat.le_refl _) iP,HO6.out.rV (Nat.le_refl _) _ _⟩
 ·
  go_upto_region 9 with (first
   | ((with_reducible refine (dN 64 c A n cap w4 Ge.out aO).mono ?_);rintro e w5 ⟨y5,a5,b5,rfl,XM,Gl⟩;have b5':y5<=63:=b5;clear b5;obtain⟨f5,rfl⟩:=Int.eq_ofNat_of_zero_le a5;have g5:IntKind.u8.wrap (f5:Int)=(f5:Int):=bJ;have Um:=I XM;have R5:=I (R4.out.gV Gl iP);have X5:=I (X4.out.gV Gl hsc);have py:=I (Gt.out.trans Gl);clear XM Gl)
   | ((with_reducible refine (dN 64 c A n cap w5 Um.out aO).mono ?_);rintro e w6 ⟨y6,a6,b6,rfl,hC6,KC⟩;have b6':y6<=63:=b6;clear b6;obtain⟨f6,rfl⟩:=Int.eq_ofNat_of_zero_le a6;have g6:IntKind.u8.wrap (64+(f6:Int))=(64+(f6:Int)):=bJ;have HC6:=I hC6;have R6:=I (R5.out.gV KC iP);have X6:=I (X5.out.gV KC hsc);have HO6:=I (py.out.trans KC);clear hC6 KC)
   | (go_at_call 135;rw[show (64+(f6:Int))=((64+f6:Nat):Int) by omega];refine (BJ f5 (64+f6) _ aF aF aF aF).mono ?_;rintro e w7 ⟨l7,h7,b7,i7,j7,rfl,Py⟩;have i7':=I i7;have j7':=I j7;have HC7:=I (HC6.out.de Py);have R7:=I (R6.out.on Py);have X7:=I (X6.out.on Py);have HO7:=I (HO6.out.trans (ic.dH Py));clear i7 j7 Py))
  refine BK fun w8 zA=>?_
  have Y8:=I (nk.on nk.new zA)
  have Vj:U w7 w8:=U.trans (U.alloc (U.refl _) _) zA
  have R8:=I (R7.out.on Vj)
  have X8:=I (X7.out.on Vj)
  have HC8:=I (HC7.out.de Vj)
  have HO8:=I (HO7.out.trans (ic.dH Vj))
  have h8:=R8.out
  obtain⟨r0,r1,r2,r3,r4⟩:=h8
  have h8:=X8.out
  obtain⟨x0,x1,x2,x3,x4⟩:=h8
  have h8:=Y8.out
  obtain⟨z0,z1,z2,z3,z4⟩:=h8
  go_wp2_with (go_at_call 136;refine (ti l7 h7 lo hi _).mono ?_;rintro e w9 ⟨rfl,qz⟩;have R9:=I (R8.out.on qz);have h9:=R9.out;obtain⟨r0,r1,r2,r3,r4⟩:=h9;have HC9:=I (HC8.out.de qz);have ng:=I (HO8.out.trans (ic.dH qz));clear qz)
  have D:=R9.out.put (bits .andNot .i64 l7 lo) (bits .andNot .i64 h7 hi)
  obtain⟨d0,d1,d2,d3,d4⟩:=D
  exact bodyPost_ret (v:=.agg #[.int .i64 (bits .andNot .i64 l7 lo),.int .i64 (bits .andNot .i64 h7 hi)]) bC rfl ⟨_,_,tF _,tF _,rfl,kC.Vh HC.out HC9.out ng.out (Nat.le_refl _) iP,ng.out.rV (Nat.le_refl _) _ _⟩
 ·
  have p0:(y==0)=false:=by simp[q0]
  have p1:(y==1)=false:=by simp[q1]
  have p2:(y==2)=false:=by simp[q2]
  clear q0 q1 q2
  go_wp2_with (fail)
  have D:=R4.out.put lo hi
  obtain⟨d0,d1,d2,d3,d4⟩:=D
  exact bodyPost_ret (v:=.agg #[.int .i64 lo,.int .i64 hi]) bC rfl ⟨_,_,hI1.out,hI2.out,rfl,kC.Vh HC.out Ge.out Gt.out (Nat.le_refl _) iP,Gt.out.rV (Nat.le_refl _) _ _⟩
theorem kf (n:Int) (w:World):Calls Tryz.prog 73 #[.int .i64 n] w fun e w'=>e=.returned (.agg #[.int .i64 1,.int .i64 n,.int .i64 0,.string ByteArray.empty,.int .i64 0,.int .i64 0])/\U w w':=by
 go_enter Tryz.func73,Tryz.ntmps73
 go_wp2
 go_returns
 exact⟨rfl,bl⟩
theorem ni (t:cx) (w:World):Calls Tryz.prog 77 #[.string t] w fun e w'=>e=.returned (.agg #[.int .i64 2,.int .i64 0,.int .i64 0,.string t,.int .i64 0,.int .i64 0])/\U w w':=by
 go_enter Tryz.func77,Tryz.ntmps77
 go_wp2
 go_returns
 exact⟨rfl,bl⟩
theorem yb (lo hi:Int) (w:World):Calls Tryz.prog 99 #[.agg #[.int .i64 lo,.int .i64 hi]] w fun e w'=>e=.returned (.agg #[.int .i64 3,.int .i64 0,.int .i64 0,.string ByteArray.empty,.int .i64 lo,.int .i64 hi])/\U w w':=by
 go_enter Tryz.func99,Tryz.ntmps99
 go_wp2
 go_returns
 exact⟨rfl,bl⟩
def Ph (w:World) (c:Nat) (A:Option Addr) (n cap:Nat) (e:Ending) (w':World):Prop :=
 ∃v:cC,v.Ok/\e=.returned v.val/\kC w' c A n cap/\ic c w w'
theorem Z6.gV {w w':World} {b c:Nat} (h:Z6 w b) (hb:ic c w w') (hn:b≠c):Z6 w' b:=by
 obtain⟨c0,c1,c2,c3,c4,c5,f,l⟩:=h
 exact⟨(hb.cell l hn).trans c0,(hb.cell l hn).trans c1,(hb.cell l hn).trans c2,(hb.cell l hn).trans c3,(hb.cell l hn).trans c4,(hb.cell l hn).trans c5,fun o=>(hb.frozen l hn).trans (f o),au l hb.size⟩
theorem gG {P:Program} {fn:Func} {Q:Ending->World->Prop} {ex:Exit} {a:Act} {w:World} {b:Nat} {x0 x1 x2 x3 x4 x5:Value} (h:Z6 w b)
  (H:∀w',w'.cell? ⟨b,0,none⟩=some x0->w'.cell? ⟨b,1,none⟩=some x1->w'.cell? ⟨b,2,none⟩=some x2->w'.cell? ⟨b,3,none⟩=some x3->w'.cell? ⟨b,4,none⟩=some x4->w'.cell? ⟨b,5,none⟩=some x5 ->
   (∀(w0:World) (c:Nat),ic c w0 w->w0.heap.size<=b->ic c w0 w')->(∀b' o:Nat,b'≠b->w'.cell? ⟨b',o,none⟩=w.cell? ⟨b',o,none⟩)->(∀a:Addr,w'.frozen? a=w.frozen? a)->w.heap.size=w'.heap.size->bodyPost P fn Q ex a w') :
  bodyPost P fn Q ex a ((((((w.setCell ⟨b,0,none⟩ x0).setCell ⟨b,1,none⟩ x1).setCell ⟨b,2,none⟩ x2).setCell ⟨b,3,none⟩ x3).setCell ⟨b,4,none⟩ x4).setCell ⟨b,5,none⟩ x5):=by
 obtain⟨d0,d1,d2,d3,d4,d5⟩:=h.put x0 x1 x2 x3 x4 x5
 refine H _ d0 d1 d2 d3 d4 d5 (fun w0 c ho hb=>?_) (fun b' o hn=>?_) (fun a=>by simp) aJ
 ·
  have k:Below w0.heap.size w ((((((w.setCell ⟨b,0,none⟩ x0).setCell ⟨b,1,none⟩ x1).setCell ⟨b,2,none⟩ x2).setCell ⟨b,3,none⟩ x3).setCell ⟨b,4,none⟩ x4).setCell ⟨b,5,none⟩ x5) :=
   Below.setCell (Below.setCell (Below.setCell (Below.setCell (Below.setCell (Below.setCell (Below.refl _ _) hb x0) hb x1) hb x2) hb x3) hb x4) hb x5
  exact⟨k.os.trans ho.os,k.tape.trans ho.tape,k.output.trans ho.output,aw ho.size k.size,fun i hi hc=>(k.block i hi).trans (ho.block i hi hc)⟩
 ·
  rw[World.cell?_setCell_far _ _ _ _ (Ne.symm hn),World.cell?_setCell_far _ _ _ _ (Ne.symm hn),World.cell?_setCell_far _ _ _ _ (Ne.symm hn),World.cell?_setCell_far _ _ _ _ (Ne.symm hn),World.cell?_setCell_far _ _ _ _ (Ne.symm hn),World.cell?_setCell_far _ _ _ _ (Ne.symm hn)]
theorem lM:dT 0:=by unfold dT;omega
theorem fM {x:Int} (h1 : -100<=x) (h2:x<=100):dT x:=by unfold dT;omega
theorem zw (c:Nat) (A:Option Addr) (n cap:Nat) (w:World) (hc:kC w c A n cap) :
  Calls Tryz.prog 43 #[.pointer (some ⟨c,0,none⟩)] w (Ph w c A n cap):=by
 have HC:=I hc
 have jP:=hc.1
 have iP:w.heap.size≠c:=aF
 clear hc
 go_enter Tryz.func43,Tryz.ntmps43
 go_upto_region 2 with (go_at_call 75;refine (dN 7 c A n cap _ (HC.out.de bl) aO).mono ?_;rintro e w1 ⟨y,y1,y2,rfl,pw,rS⟩;have mc:=I pw;have nW:=I (ic.trans (ic.dH (c:=c) (w:=w) bl) rS);have Z1:=I (Z6.gV Z6.new rS iP);clear pw rS;have y3:y<=6:=y2;clear y2)
 have hZ:=Z1.out
 obtain⟨z0,z1,z2,z3,z4,z5,zf,zl⟩:=hZ
 rcases (show y=0\/y=1\/y=2\/y=3\/y=4\/y=5\/y=6 by omega)with rfl | rfl | rfl | rfl | rfl | rfl | rfl
 ·
  go_wp2_with (fail)
  refine gG Z1.out fun wz d0 d1 d2 d3 d4 d5 ho hf hz _=>?_
  exact bodyPost_ret (v:=cC.zero.val) bg rfl ⟨cC.zero,⟨lM,lM,lM,by decide,lM,lM⟩,rfl,kC.fin HC.out mc.out (ho _ _ nW.out (Nat.le_refl _)) (fun o=>hf _ _ (Ne.symm iP)) (fun o=>hz _),ho _ _ nW.out (Nat.le_refl _)⟩
 iterate 2
  ·
   go_wp2_with (first
    | (go_at_call 78;refine (qS w1.heap.size 8 8 c A n cap _ (mc.out.de bl) (lR [0,1,2,3,-1,7,999999999999,-999999999999] aI) (by have:=mc.out.1;omega) aF aF).mono ?_;rintro e w2 ⟨x,hx,rfl,sR,qE⟩;have sD:=I sR;have hx':=I hx;have nO:=I (nW.out.trans (ic.trans (ic.dH bl) qE));have Z2:=I (Z6.gV (Z1.out.on (w':=w1.alloc _) bl) qE iP);clear sR qE hx)
    | (go_at_call 73;refine (kf x _).mono ?_;rintro e w3 ⟨rfl,jx⟩;have xz:=I (sD.out.de jx);have tq:=I (nO.out.trans (ic.dH jx));have Z3:=I (Z2.out.on jx);have h3:=Z3.out;obtain⟨z0,z1,z2,z3,z4,z5,zf,zl⟩:=h3;clear jx))
   refine gG Z3.out fun wz d0 d1 d2 d3 d4 d5 ho hf hz _=>?_
   exact bodyPost_ret (v:=(cC.ofInt x).val) bg rfl ⟨cC.ofInt x,⟨fM (by show -100<=(1:Int);decide) (by show (1:Int)<=100;decide),hx'.out,lM,by show ByteArray.empty.size<=maxLen;decide,lM,lM⟩,rfl,kC.fin HC.out xz.out (ho _ _ tq.out (Nat.le_refl _)) (fun o=>hf _ _ (Ne.symm iP)) (fun o=>hz _),ho _ _ tq.out (Nat.le_refl _)⟩
 iterate 2
  ·
   go_wp2_with (first
    | (go_at_call 98;refine (Jf c A n cap _ mc.out).mono ?_;rintro e w2 ⟨x,hx,rfl,sR,qE⟩;have sD:=I sR;have nO:=I (nW.out.trans qE);have Z2:=I (Z1.out.gV qE iP);clear sR qE)
    | (go_at_call 77;refine (ni _ _).mono ?_;rintro e w3 ⟨rfl,jx⟩;have xz:=I (sD.out.de jx);have tq:=I (nO.out.trans (ic.dH jx));have Z3:=I (Z2.out.on jx);have h3:=Z3.out;obtain⟨z0,z1,z2,z3,z4,z5,zf,zl⟩:=h3;clear jx))
   refine gG Z3.out fun wz d0 d1 d2 d3 d4 d5 ho hf hz _=>?_
   exact bodyPost_ret (v:=(cC.IM x).val) bg rfl ⟨cC.IM x,⟨fM (by show -100<=(2:Int);decide) (by show (2:Int)<=100;decide),lM,lM,by show x.size<=maxLen;unfold maxLen;omega,lM,lM⟩,rfl,kC.fin HC.out xz.out (ho _ _ tq.out (Nat.le_refl _)) (fun o=>hf _ _ (Ne.symm iP)) (fun o=>hz _),ho _ _ tq.out (Nat.le_refl _)⟩
 ·
  go_wp2_with (first
   | (go_at_call 100;refine (Jg c A n cap _ mc.out).mono ?_;rintro e w2 ⟨lo,hi,h1,h2,rfl,sR,qE⟩;have LW:=I h1;have h2':=I h2;have sD:=I sR;have nO:=I (nW.out.trans qE);have Z2:=I (Z1.out.gV qE iP);clear sR qE h1 h2)
   | (go_at_call 99;refine (yb lo hi _).mono ?_;rintro e w3 ⟨rfl,jx⟩;have xz:=I (sD.out.de jx);have tq:=I (nO.out.trans (ic.dH jx));have Z3:=I (Z2.out.on jx);have h3:=Z3.out;obtain⟨z0,z1,z2,z3,z4,z5,zf,zl⟩:=h3;clear jx))
  refine gG Z3.out fun wz d0 d1 d2 d3 d4 d5 ho hf hz _=>?_
  exact bodyPost_ret (v:=(cC.Pe lo hi).val) bg rfl ⟨cC.Pe lo hi,⟨fM (by show -100<=(3:Int);decide) (by show (3:Int)<=100;decide),lM,lM,by show ByteArray.empty.size<=maxLen;decide,LW.out,h2'.out⟩,rfl,kC.fin HC.out xz.out (ho _ _ tq.out (Nat.le_refl _)) (fun o=>hf _ _ (Ne.symm iP)) (fun o=>hz _),ho _ _ tq.out (Nat.le_refl _)⟩
 ·
  go_wp2_with (first
   | ((with_reducible refine (dN 23 c A n cap w1 mc.out aO).mono ?_);rintro e w2 ⟨a2,p2,q2,rfl,sR,qE⟩;have r2:a2<=22:=q2;clear q2;have sD:=I sR;have nO:=I (nW.out.trans qE);have Z2:=I (Z1.out.gV qE iP);clear sR qE)
   | ((with_reducible refine (dN 5 c A n cap w2 sD.out aO).mono ?_);rintro e w3 ⟨a3,p3,q3,rfl,XH,GP⟩;have r3:a3<=4:=q3;clear q3;have xz:=I XH;have tq:=I (nO.out.trans GP);have Z3:=I (Z2.out.gV GP iP);clear XH GP)
   | ((with_reducible refine (dN 4 c A n cap w3 xz.out aO).mono ?_);rintro e w4 ⟨a4,p4,q4,rfl,Pj,CX⟩;have r4:a4<=3:=q4;clear q4;have Ge:=I Pj;have Gt:=I (tq.out.trans CX);have Z4:=I (Z3.out.gV CX iP);clear Pj CX)
   | (go_at_call 74;refine (nQ w4.heap.size 4 1 4 c A n cap _ (Ge.out.de bl) (rW 1 [⟨#[]⟩,⟨#[]⟩,⟨#[]⟩,⟨#[113]⟩] bP) (by have:=Ge.out.1;omega) aF aF).mono ?_;rintro e w5 ⟨x,hx,rfl,XM,Gl⟩;have hx':=I hx;have Um:=I XM;have py:=I (Gt.out.trans (ic.trans (ic.dH bl) Gl));have Z5:=I (Z6.gV (Z4.out.on (w':=w4.alloc _) bl) Gl iP);have h5:=Z5.out;obtain⟨z0,z1,z2,z3,z4,z5,zf,zl⟩:=h5;clear XM Gl hx))
  refine gG Z5.out fun wz d0 d1 d2 d3 d4 d5 ho hf hz _=>?_
  exact bodyPost_ret (v:=(cC.mk (a2 - 1) (a3 - 1) (a4 - 1) x 0 0).val) bg rfl ⟨⟨a2 - 1,a3 - 1,a4 - 1,x,0,0⟩,⟨fM (by show -100<=a2 - 1;omega) (by show a2 - 1<=100;omega),fM (by show -100<=a3 - 1;omega) (by show a3 - 1<=100;omega),fM (by show -100<=a4 - 1;omega) (by show a4 - 1<=100;omega),by have:=hx'.out;show x.size<=maxLen;unfold maxLen;omega,lM,lM⟩,rfl,kC.fin HC.out Um.out (ho _ _ py.out (Nat.le_refl _)) (fun o=>hf _ _ (Ne.symm iP)) (fun o=>hz _),ho _ _ py.out (Nat.le_refl _)⟩
end Go.Proofs.YtjngkknbpfgdcaaGreatDoor
namespace Go.Proofs.YtjngkknbpfgdcaaGreatDoor
open Go.ChangeShapes Go.WideShapes Go.ChangeAt Go.RowKit Go.Deep
theorem Vk {w:World} {a:Addr} {v:Value} (h:w.cell? a=some v):a.spot=none/\a.block<w.heap.size:=by
 unfold World.cell? at h
 split at h
 ·
  rename_i c _ _ hb
  refine⟨?_,?_⟩
  ·
   split at h
   ·
    cases h
   ·
    rename_i hs;cases hsp:a.spot with
    | none=>rfl
    | some x=>rw[hsp]at hs;simp at hs
  ·
   rcases Nat.lt_or_ge a.block w.heap.size with h' | h'
   ·
    exact h'
   ·
    rw[Array.getElem?_eq_none h']at hb;cases hb
 ·
  cases h
theorem Jh {n:Int} (h:(Lit.int .u8 n).wf=true):0<=n/\n<256:=by
 have e1:IntKind.u8.min=0:=aI
 have e2:IntKind.u8.max=255:=aI
 simp[Lit.wf,e1,e2]at h
 omega
theorem Ji {H:Type} {enc:TypeId × Value->H} {W:World} {spare:Nat->Bool} {held:Bool} {A:Option Addr} {n cap:Nat} {d:DataW H} {p:List MemPlace}
  (h:DataW.Trod enc Tryz.prog W 0 spare held 22 (.slice A n cap) d p):∀c,W.heap.size<=c->n<=1048576->LN W c A n:=by
 intro c hc hn
 refine⟨hn,fun h0=>?_⟩
 obtain⟨fuel,hf⟩:=h
 rcases open_slice1 Tryz.underlying22 aG hf with⟨e,_⟩ | ⟨a,len,cap',m,k,V,D,Pl,e,_,hl,_,hm,_,hi⟩
 ·
  simp only[Value.cells]at e
  injection e with e _
  injection e with e1 e2 e3
  omega
 ·
  simp only[Value.cells]at e
  injection e with e _
  injection e with e1 e2 e3
  subst e1 e2 e3
  have om:n<=m:=by rw[hm];split <;> omega
  have hz:=hi 0 aF
  have jZ:=Vk hz.1
  obtain⟨b,o,sp⟩:=a
  simp only[Addr.add]at jZ
  obtain⟨rfl,hb⟩:=jZ
  refine⟨b,o,rfl,hb,by show b≠c;have:b<W.heap.size:=hb;omega,fun j hj=>?_⟩
  obtain⟨h1,h2⟩:=hi j aF
  obtain⟨x,ex,_,wx⟩:=DataW.trod_int (cs:=[V j]) Tryz.underlying5 h2
  simp only[List.cons.injEq,and_true]at ex
  have hx:=Jh wx
  refine⟨x.toNat,by omega,?_⟩
  rw[show ((x.toNat:Nat):Int)=x by omega,<-ex]
  rcases Nat.eq_zero_or_pos j with h0 | h0
  ·
   subst h0;simpa[Addr.add]using h1
  ·
   have h9:¬j=0:=aF
   simpa[Addr.add,h9]using h1
theorem GU {H:Type} {enc:TypeId × Value->H} {W:World} {spare:Nat->Bool} {held:Bool} {A:Option Addr} {n cap:Nat} {d:DataW H} {p:List MemPlace}
  (h:DataW.Trod enc Tryz.prog W 0 spare held 22 (.slice A n cap) d p):n<=cap/\cap<=maxLen:=by
 obtain⟨fuel,hf⟩:=h
 rcases open_slice1 Tryz.underlying22 aG hf with⟨e,_⟩ | ⟨a,len,cap',m,k,V,D,Pl,e,_,hl,hm,-⟩
 ·
  simp only[Value.cells]at e
  injection e with e _
  injection e with e1 e2 e3
  subst e2 e3
  exact⟨Nat.le_refl _,Nat.zero_le _⟩
 ·
  simp only[Value.cells]at e
  injection e with e _
  injection e with e1 e2 e3
  subst e2 e3
  exact⟨hl,hm⟩
end Go.Proofs.YtjngkknbpfgdcaaGreatDoor
