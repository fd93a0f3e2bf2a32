import Derived.Test.YtjngkknbpfgdcaaGreatDoorVvK5
import Derived.Test.YtjngkknbpfgdcaaGreatDoorVvK2b
set_option linter.unusedVariables false
set_option linter.unusedSimpArgs false
set_option maxRecDepth 100000
set_option maxHeartbeats 8000000
namespace Go.Proofs.YtjngkknbpfgdcaaGreatDoor
open Go.RowKit Go.Proofs.Tryz
structure EY (N:Nat) (w:World) (q:Nat) (v0 v1 v2 v3 v4 v5 v6 v7 v8 v9 v10 v11 v12:Value) (la lb:List o7) (L:List Nat) (ds:List (List Y)):Prop where
 box:SB w q v0 v1 v2 v3 v4 v5 v6 v7 v8 v9 v10 v11 v12
 gv:gL N w (la++⟨81,5,v2,L,ds⟩ :: lb)
 low:∀f,f∈la++⟨81,5,v2,L,ds⟩ :: lb->¬iG f.v f.L q
theorem gL.Lu {N:Nat} {w:World} {l:List o7} (h:gL N w l) {b:Nat} (hb:∀f,f∈l->¬iG f.v f.L b) (o:Nat) (u:Value):gL N (w.setCell ⟨b,o,none⟩ u) l :=
 h.keep aJ fun e he x hx=>dY o u (fun q=>hb e he (q▸hx))
theorem EY.on {N:Nat} {w w':World} {q:Nat} {v0 v1 v2 v3 v4 v5 v6 v7 v8 v9 v10 v11 v12:Value} {la lb:List o7} {L:List Nat} {ds:List (List Y)} (h:EY N w q v0 v1 v2 v3 v4 v5 v6 v7 v8 v9 v10 v11 v12 la lb L ds) (k:U w w'):EY N w' q v0 v1 v2 v3 v4 v5 v6 v7 v8 v9 v10 v11 v12 la lb L ds:=⟨h.box.on k,h.gv.de k,h.low⟩
theorem Gv {q:Nat} {v2 y:Value} {la lb:List o7} {L M:List Nat} {ds:List (List Y)} {d:List Y} (h:∀f,f∈la++⟨81,5,v2,L,ds⟩ :: lb->¬iG f.v f.L q) (hy:y.ownBlock=some q->v2.ownBlock=some q) (hM:¬q∈M):∀f,f∈la++⟨81,5,y,L++M,ds++[d]⟩ :: lb->¬iG f.v f.L q:=by
 intro f hf hc
 rcases List.mem_append.1 hf with hf | hf
 ·
  exact h f (List.mem_append.2 (Or.inl hf)) hc
 ·
  rcases List.mem_cons.1 hf with rfl | hf
  ·
   rcases hc with hc | hc
   ·
    exact h _ (List.mem_append.2 (Or.inr (List.mem_cons_self ..))) (Or.inl (hy hc))
   ·
    rcases List.mem_append.1 hc with hc | hc
    ·
     exact h _ (List.mem_append.2 (Or.inr (List.mem_cons_self ..))) (Or.inr hc)
    ·
     exact hM hc
  ·
   exact h f (List.mem_append.2 (Or.inr (List.mem_cons_of_mem _ hf))) hc
def DI (N:Nat) (w:World) (q:Nat) (v0 v1 v2 v3 v4 v5 v6 v7 v8 v9 v10 v11 v12 qu:Value) (la lb:List o7) (L M:List Nat) (ds:List (List Y)) (d:List Y) (r:Value) (e:Ending) (w':World):Prop :=
 ∃y,e=.returned r/\EY N w' q v0 v1 y v3 v4 v5 v6 v7 v8 v9 v10 v11 qu la lb (L++M) (ds++[d])/\(w'.os=w.os/\w'.tape=w.tape/\w'.output=w.output/\w.heap.size<=w'.heap.size)/\(∀b,y.ownBlock=some b->v2.ownBlock=some b\/w.heap.size<=b)/\∀k,k<w.heap.size->k≠q->v2.ownBlock≠some k->w'.heap[k]?=w.heap[k]?
theorem IU (kk mm nm:Int) (hnm:IntKind.i64.wrap (mm+1)=nm) (LK:2<=kk) (nF:kk<=7) (N:Nat) (w:World) (q:Nat) (v0 v1 v2 v3 v4 v5 v6 v7 v8 v9 v10 v11:Value) (la lb:List o7) (L M:List Nat) (ds:List (List Y)) (d:List Y) (o1 o2 o3 o4:Value) (h:EY N w q v0 v1 v2 v3 v4 v5 v6 v7 v8 v9 v10 v11 (.int .i64 mm) la lb L ds) (hd:Y.dh w M d [.int .i64 kk,o1,.int .i64 nm,o3,o4]) (hoo:o2.oneCell'=true) (hn:M.Nodup) (hM:∀b,b∈M->N<=b/\b≠q/\∀f,f∈la++⟨81,5,v2,L,ds⟩ :: lb->¬iG f.v f.L b) (hl:ds.length<=2097152) (T0:N<=w.heap.size) :
  Calls prog 76 #[.pointer (some ⟨q,0,none⟩),.agg #[.int .i64 kk,o1,o2,o3,o4]] w (DI N w q v0 v1 v2 v3 v4 v5 v6 v7 v8 v9 v10 v11 (.int .i64 mm) (.int .i64 nm) la lb L M ds d (.int .i64 (ds.length:Nat))):=by
 have WW:=I h
 have HD0:=I hd
 have HN:=I hn
 have HM:=I hM
 have Us:=h.low
 obtain⟨io,hio,zo0,zo1,zo2⟩:=info_parts AX
 clear h hd hn hM
 have dk1:decide (2<=kk)=true:=ay LK
 have dk2:decide (kk<=7)=true:=ay nF
 have vx:=HD0.out.mH
 obtain⟨lP,l4,gM,gN,gH,gO,gP,gQ,gR,gS,gT,gU,fu,fv,fw⟩:=WW.out.box
 go_enter func76,ntmps76
 go_upto_region 4 with (fail)
 refine cZ fun wr jO=>?_
 clear lP l4 gM gN gH gO gP gQ gR gS gT gU fu fv fw vx
 obtain⟨w1,gy⟩:∃x,w.setCell ⟨q,12,none⟩ (.int .i64 nm)=x:=⟨_,rfl⟩
 replace jO:w1.alloc (.cells #[.int .i64 kk,o1,.int .i64 nm,o3,o4] 81)=wr:=by rw[<-gy];exact jO
 have T1:Below q w w1:=by rw[<-gy];exact Below.setCell (Below.refl q w) (show q<=(⟨q,12,none⟩:Addr).block from Nat.le_refl q) _
 have jZ:w1.heap.size=w.heap.size:=by rw[<-gy];simp
 have ya:∀k,k≠q->w1.heap[k]?=w.heap[k]?:=fun k hk=>by rw[<-gy];exact dY 12 _ (fun e=>hk e.symm)
 have HS:=I (show w1.heap.size=w.heap.size/\w1.os=w.os/\w1.tape=w.tape/\w1.output=w.output/\∀k,k≠q->w1.heap[k]?=w.heap[k]? from⟨jZ,T1.os,T1.tape,T1.output,ya⟩)
 have HH:=I (show EY N w1 q v0 v1 v2 v3 v4 v5 v6 v7 v8 v9 v10 v11 (.int .i64 nm) la lb L ds from by rw[<-gy];exact⟨WW.out.box.Gy _,WW.out.gv.Lu Us 12 _,Us⟩)
 have HD:=I (show Y.dh w1 M d [.int .i64 kk,o1,.int .i64 nm,o3,o4]from Y.dh.keep aF _ _ _ (fun x hx=>⟨fun o=>World.cell?_of_block (ya x (HM.out x hx).2.1),fun o=>World.frozen?_of_block (ya x (HM.out x hx).2.1)⟩) HD0.out)
 replace T0:N<=w1.heap.size:=by omega
 clear WW HD0 T1 ya gy
 have HE:=I (show dK w1 81 5 v2 L ds from HH.out.gv.own ⟨81,5,v2,L,ds⟩ aJ)
 have jg:U w1 wr:=by rw[<-jO];exact bl
 have OA:=I (show OB wr w.heap.size (.int .i64 kk) o1 (.int .i64 nm) o3 o4 from by rw[<-jO];have h:=OB.new w1 81 (v0:=.int .i64 kk) (v1:=o1) (v2:=.int .i64 nm) (v3:=o3) (v4:=o4);rw[jZ]at h;exact h)
 clear jO jZ
 refine nP (m:=10) (p:=7) (fun j=>match j with  | _=>[]) (fun j vf wq=>match j with | 0=>((vf 0)=.pointer (some ⟨q,0,none⟩)) | 1=>((vf 1)=.pointer (some ⟨q,0,none⟩)) | 2=>((vf 2)=.pointer (some ⟨q,0,none⟩)) | 3=>((vf 3)=.pointer (some ⟨q,2,none⟩)) | 4=>((vf 4)=v2) | 5=>((vf 5)=.agg #[.int .i64 kk,o1,.int .i64 nm,o3,o4]) | 6=>(∃g:Nat,(vf 6)=.slice (some ⟨g,0,none⟩) 1 1/\wr.heap.size<=g/\wq.heap[g]?=some (.cells #[.int .i64 kk,o1,.int .i64 nm,o3,o4] 81)) | 7=>(dK wq 81 5 (vf 7) (L++M) (ds++[d])/\∀b,Value.ownBlock (vf 7)=some b->v2.ownBlock=some b\/wr.heap.size<=b) | 8=>((vf 8)=.pointer (some ⟨q,0,none⟩)) | 9=>((vf 9)=.pointer (some ⟨q,2,none⟩)) | _=>True) (fun wa wb=>U wa wb) (fun wa wb=>Po wr.heap.size wa wb) (fun wq=>EY N wq q v0 v1 v2 v3 v4 v5 v6 v7 v8 v9 v10 v11 (.int .i64 nm) la lb L ds/\OB wq w.heap.size (.int .i64 kk) o1 (.int .i64 nm) o3 o4/\Y.dh wq M d [.int .i64 kk,o1,.int .i64 nm,o3,o4]/\U wr wq) (fun wq=>∃wm:World,U wr wm/\wm.grownBy wq v2.ownBlock) [(0,some 25),(1,some 26),(2,some 27),(3,some 28),(4,some 29),(5,some 30),(6,some 31),(7,some 32),(8,some 33),(9,some 34),(10,none)] rfl aG aG aG aI ?hG ?hR ?hR2 ?hG0 ?hG1 rfl rfl ?hstep ?hp ?hlast
 case hG=>exact⟨HH.out.on (jg.trans bl),OA.out.on bl,HD.out.de (jg.trans bl),bl⟩
 case hG0=>exact fun wa wb hk hg=>⟨hg.1.on hk,hg.2.1.on hk,hg.2.2.1.de hk,hg.2.2.2.trans hk⟩
 case hG1=>exact fun wa wb hk hg=>by obtain⟨wm,h3,h4⟩:=hg;exact⟨wm,h3,yS h4 hk⟩
 case hR =>
  exact WX
 case hR2 =>
  exact WY
 case hstep =>
  simp only[gZ,Act.put,aa,ab,ae,af,ag,aj]
  refine (dO (i:=0) (i2:=1) (o:=_) rfl ?s0 (dO (i:=1) (i2:=2) (o:=_) rfl ?s1 (dO (i:=2) (i2:=3) (o:=_) rfl ?s2 (dO (i:=3) (i2:=4) (o:=_) rfl ?s3 (dO (i:=4) (i2:=5) (o:=_) rfl ?s4 (dO (i:=5) (i2:=6) (o:=_) rfl ?s5 (dO (i:=6) (i2:=7) (o:=_) rfl ?s6 (tH (p:=7) (p2:=8) (dO (i:=8) (i2:=9) (o:=_) rfl ?s8 (dO (i:=9) (i2:=10) (o:=_) rfl ?s9 (xC aI)))))))))))
  case s0 =>
   exact tI
  case s1 =>
   exact tI
  case s2 =>
   exact WZ
  case s3 =>
   exact W4
  case s4 =>
   exact W5
  case s5 =>
   exact W6
  case s6 =>
   intro u wa hG hf K hK
   have g0:=rU hG aG
   have e5:(u 5)=.agg #[.int .i64 kk,o1,.int .i64 nm,o3,o4]:=fU hf 5 aG
   clear hf
   clear hG
   simp only[Act.put,aa,ab,ae,af,ag,aj]at hK |-
   rw[e5]at hK |-
   have tu:=U.size g0.2.2.2
   have hoc:=g0.2.2.1.mH
   have jl:U wa (wa.alloc (.cells #[.int .i64 kk,o1,.int .i64 nm,o3,o4] 81)):=bl
   go_simp
   exact hK.out _ _ jl ⟨wa.heap.size,rfl,tu,heap_alloc_new _ _⟩
  case s8 =>
   exact W7
  case s9 =>
   exact W9
 case hp =>
  simp only[gZ,Act.put,aa,ab,ae,af,ag,aj]
  intro u wa hG hf K hK
  have e4:(u 4)=v2:=fU hf 4 aG
  have e6:∃g:Nat,(u 6)=.slice (some ⟨g,0,none⟩) 1 1/\wr.heap.size<=g/\wa.heap[g]?=some (.cells #[.int .i64 kk,o1,.int .i64 nm,o3,o4] 81):=fU hf 6 aG
  clear hf
  rw[e4]at hK |-
  obtain⟨g,e6,Xa,hg2⟩:=e6
  rw[e6]at hK |-
  have hold:dK wa 81 5 v2 L ds:=hG.1.gv.own ⟨81,5,v2,L,ds⟩ aJ
  have tu:=U.size hG.2.2.2
  have sS:=jg.size
  have hlv:=HE.out.lt
  have mi:Src wa 5 (some ⟨g,0,none⟩) 1 M [d] [.int .i64 kk,o1,.int .i64 nm,o3,o4]:=⟨rfl,(fun h=>(by cases h)),⟨M,[],[.int .i64 kk,o1,.int .i64 nm,o3,o4],[],by simp,by simp,rfl,hG.2.2.1,rfl,rfl⟩,HN.out,fun ad hA j u hu=>by obtain rfl:=Option.some.inj hA;rw[addr_add];unfold World.cell?;simp only[hg2];simpa using hu⟩
  refine jq (.tmp 29) (.tmp 31) 26 rfl 81 io (.agg #[.int .i64 0,.int .i64 0,.int .i64 0,.slice none 0 0,.slice none 0 0]) 5 72 underlying26 hio zo0 zo1 zo2 aI aI hold mi 1 rfl rfl (fun b hb hm=>(HM.out b hm).2.2 ⟨81,5,v2,L,ds⟩ aJ hb) aF bE (fun v9 w9 mq mr lp=>?_)
  (try simp only[Act.put,aa,ab,ae,af,ag,aj])
  exact hK.out _ _ ⟨mr.size,fun k hk hl=>mr.block k hl (fun e=>by have:=hlv k (Or.inl e.symm);omega)⟩ ⟨wa,hG.2.2.2,mr⟩ ⟨mq,fun b hb=>(lp b hb).imp id (fun e=>by omega)⟩
 case hlast =>
  simp only[gZ,Act.put,aa,ab,ae,af,ag,aj]
  intro u wa hG hf K hK
  have e7:dK wa 81 5 (u 7) (L++M) (ds++[d])/\∀b,Value.ownBlock (u 7)=some b->v2.ownBlock=some b\/wr.heap.size<=b:=hf 7 aI
  have e9:u 9=.pointer (some ⟨q,2,none⟩):=hf 9 aI
  clear hf
  obtain⟨hO,yT⟩:=e7
  obtain⟨A9,c9,e7⟩:∃A9 c9,u 7=.slice A9 (ds.length+1) c9:=by obtain⟨A9,c9,L9,tJ,-⟩:=hO.ownRow;exact⟨A9,c9,by rw[tJ,List.length_append];rfl⟩
  rw[e7]at hO yT hK |-
  rw[e9]at hK |-
  obtain⟨wm,h2,h3⟩:=hG
  have sS:=jg.size
  have xX:=h2.size
  have Ua:=h3.size
  have Bm:∀b,v2.ownBlock=some b->N<=b:=fun b hb=>HH.out.gv.low ⟨81,5,v2,L,ds⟩ aJ b (Or.inl hb)
  have same:∀k,k<w1.heap.size->v2.ownBlock≠some k->wa.heap[k]?=w1.heap[k]?:=fun k hk iP=>((h3.block k aF (fun e=>iP e.symm)).trans (Below.block h2 k aF)).trans (Below.block jg k hk)
  have BX:=HH.out.box.block (w':=wa) aF (same q (by have:=HH.out.box.1;omega) (fun e=>Us ⟨81,5,v2,L,ds⟩ aJ (Or.inl e)))
  have Ut:gL N wa (la++⟨81,5,.slice A9 (ds.length+1) c9,L++M,ds++[d]⟩ :: lb):=gL.Bl (HH.out.gv.de jg) h2 h3 (e':=⟨81,5,.slice A9 (ds.length+1) c9,L++M,ds++[d]⟩) hO (fun b hb=>?gx)
  case gx =>
   exact ad6
  have Uu:=HH.out.box.1
  have Pp:=Gv (y:=.slice A9 (ds.length+1) c9) (M:=M) (d:=d) Us (fun e=>(yT q e).elim id (fun h=>by omega)) (fun e=>(HM.out q e).2.1 rfl)
  have MK:=I (show EY N (wa.setCell ⟨q,2,none⟩ (.slice A9 (ds.length+1) c9)) q v0 v1 (.slice A9 (ds.length+1) c9) v3 v4 v5 v6 v7 v8 v9 v10 v11 (.int .i64 nm) la lb (L++M) (ds++[d])from⟨BX.rV _,Ut.Lu Pp 2 _,Pp⟩)
  exact Xb
theorem Lx {P:Program} {fn:Func} {Q:Ending->World->Prop} {ex:Exit} {a:Act} {w:World} {b:Nat} {x0 x1 x2 x3 x4 x5:Value} (h:Z6 w b)
  (H:∀w',w'.cell? ⟨b,0,none⟩=some x0->w'.cell? ⟨b,1,none⟩=some x1->w'.cell? ⟨b,2,none⟩=some x2->w'.cell? ⟨b,3,none⟩=some x3->w'.cell? ⟨b,4,none⟩=some x4->w'.cell? ⟨b,5,none⟩=some x5->vj b w w'->bodyPost P fn Q ex a w') :
  bodyPost P fn Q ex a ((((((w.setCell ⟨b,0,none⟩ x0).setCell ⟨b,1,none⟩ x1).setCell ⟨b,2,none⟩ x2).setCell ⟨b,3,none⟩ x3).setCell ⟨b,4,none⟩ x4).setCell ⟨b,5,none⟩ x5):=by
 obtain⟨d0,d1,d2,d3,d4,d5⟩:=h.put x0 x1 x2 x3 x4 x5
 exact H _ d0 d1 d2 d3 d4 d5 ((((((vj.set ⟨rfl,rfl,rfl,rfl,fun _ _=>rfl⟩ 0 x0).set 1 x1).set 2 x2).set 3 x3).set 4 x4).set 5 x5)
theorem EY.keep {N r:Nat} {w w':World} {q:Nat} {v0 v1 v2 v3 v4 v5 v6 v7 v8 v9 v10 v11 v12:Value} {la lb:List o7} {L:List Nat} {ds:List (List Y)} (h:EY N w q v0 v1 v2 v3 v4 v5 v6 v7 v8 v9 v10 v11 v12 la lb L ds) (hs:w.heap.size<=w'.heap.size) (hb:∀k,k<w.heap.size->k≠r->w'.heap[k]?=w.heap[k]?) (hr:q≠r) (hn:∀f,f∈la++⟨81,5,v2,L,ds⟩ :: lb->¬iG f.v f.L r):EY N w' q v0 v1 v2 v3 v4 v5 v6 v7 v8 v9 v10 v11 v12 la lb L ds :=
 ⟨h.box.block hs (hb q h.box.1 hr),h.gv.keep hs fun e he b hm=>hb b ((h.gv.own e he).lt b hm) (fun e2=>hn e he (e2▸hm)),h.low⟩
theorem DI.fin {N r:Nat} {w wr w2 w3 w4:World} {q:Nat} {v0 v1 v2 v3 v4 v5 v6 v7 v8 v9 v10 v11 v12 Z qu:Value} {la lb:List o7} {L M:List Nat} {ds:List (List Y)} {d:List Y} {r0 r1:Value} {e:Ending} (h0:EY N w q v0 v1 v2 v3 v4 v5 v6 v7 v8 v9 v10 v11 v12 la lb L ds) (hM:¬r∈M)
  (hs:w.heap.size<=wr.heap.size) (ho:wr.os=w.os/\wr.tape=w.tape/\wr.output=w.output) (hf:∀k,k<w.heap.size->k≠q->wr.heap[k]?=w.heap[k]?) (hr1:w.heap.size<=r) (hr2:r<wr.heap.size)
  (hP:DI N wr q v0 v1 v2 v3 v4 v5 v6 v7 v8 v9 v10 v11 Z qu la lb L M ds d r0 e w2) (hb:U w2 w3) (hB:vj r w3 w4):DI N w q v0 v1 v2 v3 v4 v5 v6 v7 v8 v9 v10 v11 v12 qu la lb L M ds d r1 (.returned r1) w4:=by
 obtain⟨y,-,hk,hfr,hy,Gh⟩:=hP
 have jP:=(h0.gv.own ⟨81,5,v2,L,ds⟩ aJ).lt
 have hq:=h0.box.1
 have hz:=hb.size
 have hz4:=hB.size
 refine⟨y,rfl,(hk.on hb).keep (r:=r) aF (fun k _ hk=>hB.block k hk) aF (fun f hf hc=>?_),⟨hB.os.trans (hb.os.trans (hfr.1.trans ho.1)),hB.tape.trans (hb.tape.trans (hfr.2.1.trans ho.2.1)),hB.output.trans (hb.output.trans (hfr.2.2.1.trans ho.2.2)),by omega⟩,fun b hb=>(hy b hb).imp id (fun h=>by omega),fun k hk Jm iP=>(hB.block k aF).trans ((Below.block hb k aF).trans ((Gh k aF Jm iP).trans (hf k hk Jm)))⟩
 rcases List.mem_append.1 hf with hf | hf
 ·
  have:=(h0.gv.own f (List.mem_append.2 (Or.inl hf))).lt r hc
  omega
 ·
  rcases List.mem_cons.1 hf with rfl | hf
  ·
   rcases hc with hc | hc
   ·
    rcases hy r hc with h | h
    ·
     have:=jP r (Or.inl h)
     omega
    ·
     omega
   ·
    rcases List.mem_append.1 hc with hc | hc
    ·
     have:=jP r (Or.inr hc)
     omega
    ·
     exact hM hc
  ·
   have:=(h0.gv.own f (List.mem_append.2 (Or.inr (List.mem_cons_of_mem _ hf)))).lt r hc
   omega
end Go.Proofs.YtjngkknbpfgdcaaGreatDoor
