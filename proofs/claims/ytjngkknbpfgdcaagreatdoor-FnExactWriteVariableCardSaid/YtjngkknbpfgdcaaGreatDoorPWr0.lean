import Derived.Test.YtjngkknbpfgdcaaGreatDoorPOw
import Derived.ArgAppend
import Derived.Deep.MidRow
import Derived.Test.YtjngkknbpfgdcaaGreatDoorPR0
import Derived.Test.YtjngkknbpfgdcaaGreatDoorPShelf
import Derived.Test.YtjngkknbpfgdcaaGreatDoorPE8
import Derived.Test.YtjngkknbpfgdcaaGreatDoorPMActive
import Derived.Test.YtjngkknbpfgdcaaGreatDoorPNb
set_option linter.unusedVariables false
set_option linter.unusedSimpArgs false
set_option maxRecDepth 100000
set_option maxHeartbeats 8000000
namespace Go.Proofs.YtjngkknbpfgdcaaGreatDoor
open Go.RowKit
theorem gR {b b':Nat} (hn:b'≠b):∀(vs:List Value) (o:Nat) (w:World),(w.setCells b o vs).heap[b']?=w.heap[b']?
 | [],_,_=>rfl
 | v :: r,o,w=>by
  refine (gR hn r (o+1) _).trans ?_
  unfold World.setCell
  split
  all_goals
   show (w.heap.modify b _)[b']?=_
   rw[Array.getElem?_modify,if_neg (Ne.symm hn)]
theorem nD (b:Nat):∀(vs:List Value) (o:Nat) (w:World),(w.setCells b o vs).os=w.os/\(w.setCells b o vs).tape=w.tape/\(w.setCells b o vs).output=w.output
 | [],_,_=>⟨rfl,rfl,rfl⟩
 | v :: r,o,w=>by
  have h:=nD b r (o+1) (w.setCell ⟨b,o,none⟩ v)
  have e:(w.setCell ⟨b,o,none⟩ v).os=w.os/\(w.setCell ⟨b,o,none⟩ v).tape=w.tape/\(w.setCell ⟨b,o,none⟩ v).output=w.output:=by
   unfold World.setCell
   split <;> exact⟨rfl,rfl,rfl⟩
  exact⟨h.1.trans e.1,h.2.1.trans e.2.1,h.2.2.trans e.2.2⟩
theorem nE (b o:Nat) (vs:List Value) (w:World) {S:Nat->Prop} (hS:¬S b):dP S w (w.setCells b o vs) :=
 ⟨(nD b vs o w).1,(nD b vs o w).2.1,(nD b vs o w).2.2,Nat.le_of_eq (size_setCells vs o w).symm,fun x hx _=>gR (fun e=>hS (by rw[<-e];exact hx)) vs o w⟩
theorem Gg {w:World} {base:Nat} {e:TypeId} {size:Nat} {v:Value} {n:Nat} {xs:List Value} (h:w.ownsRow base e size v n xs):w.ownsRow 0 e size v n xs/\∀b,v.ownBlock=some b->base<=b:=by
 refine⟨⟨h.1,h.2.imp id fun⟨g,cap,cur,e,_,r⟩=>⟨g,cap,cur,e,Nat.zero_le _,r⟩⟩,fun b hb=>?_⟩
 rcases h.2 with⟨rfl,-⟩ | ⟨g,cap,cur,rfl,hg,-⟩
 ·
  cases hb
 ·
  rw[<-Option.some.inj (show some g=some b from hb)];exact hg
theorem Cb {P:Program} {w:World} {o:Oper} {a:Act} {K:Act->World->Prop} {Q:Exit->Act->World->Prop} (s x:Operand) (t:TypeId) (ho:o.op=.call { callee:=.builtin .append,args:=#[s,x],argTypes:=#[t,t] })
  (E:TypeId) (i:TypeInfo) (z:Value) (k bytes:Nat) (ht:P.underlying t=some (.slice E)) (hi:P.info? E=some i) (hz:i.zero=some z) (hsize:i.size=k) (hby:i.bytes=bytes) (hzs:z.cells.size=k) (hsz:0<k)
  {L:List Nat} {A:Option Addr} {c:Nat} {xs:List (List Dat)} (hR:cL w L k A c xs) (hN:L.Nodup) (hf:∀ds∈xs,∀d∈ds,d.flat)
  {ad:Addr} {m:Nat} {d:List Dat} {us:List Value} (hd:Dat.dB w [] d us) (hu:us.length=k) (hs:a.eval s=.slice A xs.length c) (hx:a.eval x=.slice (some ad) 1 m) (hc:∀j u,us[j]?=some u->w.cell? (ad.add j)=some u)
  (hlen:(xs.length+1)*bytes<=140737488355328) (hmax:xs.length+1<=maxLen)
  (h:∀A9 c9 L9 w9,cL w9 L k A c xs->cL w9 L9 k A9 c9 (xs++[d])->L9.Nodup->(∀b,b∈L9->b∈L\/w.heap.size<=b)->dP (fun b=>b∉L) w w9->K (a.put o.dst (.slice A9 (xs.length+1) c9)) w9):o.wp P a w K Q:=by
 have hone:=hd.oneCell
 have hfl:Dat.jX w k [] [d] us:=⟨[],[],us,[],rfl,by simp,hu,hd,rfl,rfl⟩
 have grows:∀ao,A=some ao->c<xs.length+1->o.wp P a w K Q:=by
  intro ao hA hg
  subst hA
  obtain⟨olds,g1,g2,g3,g4,g5⟩:=Row.src hf (cL.row (S:=fun _=>True) (fun _ _=>trivial) hR)
  obtain⟨v',w',hrun,r1,r2⟩:=run_append_arg_grows (P:=P) w t o.type E i z k bytes ht hi hz hsize hby hzs hsz ao xs.length c olds g3.len (fun j u hj=>g5 ao rfl j u hj) ad 1 m us aB hc hg hmax hlen
  obtain⟨r3,r4⟩:=Gg r1
  have hO:fp w' E k v' [] (xs++[d]):=⟨olds++us,by rw[List.length_append];exact r3,Dat.jX.append (L:=[]) (M:=[]) (g3.keep r2.size (fun b hb=>by cases hb)) (hfl.keep r2.size (fun b hb=>by cases hb)),List.nodup_nil,fun b _ hb=>by cases hb⟩
  obtain⟨A9,c9,L9,rfl,q1,q2,q3⟩:=hO.ownRow
  have hof:=(wP r2).narrow (S':=fun b=>b∉L) (fun x _ e=>by cases e)
  unfold Oper.wp
  simp[execOp,ho,resolve,invoke,builtin,hs,hx,hrun,Result.andThen]
  exact h A9 c9 L9 w' (hR.keep r2.size fun b hb=>(wP r2).same b (fun e=>by cases e) (hR.lt b hb)) q1 q2 (fun b hb=>Or.inr ((q3 b hb).elim (r4 b) (fun e=>by cases e))) hof
 rcases hR.2.2 with⟨rfl,rfl,rfl⟩ | ⟨b,of,L',rfl,hb,hfz,rfl,room,hr⟩
 ·
  cases A with
  | some ao=>exact grows ao rfl aK
  | none =>
   refine ly s x t ho E i z k bytes ht hi hz hsize hby hzs hsz (fp.nil w E k) (A:=some ad) (m:=1) (M:=[]) (es:=[d]) (news:=us) ⟨rfl,(fun e=>by cases e),hfl,List.nodup_nil,(fun ad' e=>by cases e;exact hc)⟩ m hs hx (fun b hb hm=>by cases hm) (by simpa using hlen) (by simpa using hmax) fun v9 w9 hO hg hw=>?_
   obtain⟨A9,c9,L9,rfl,q1,q2,q3⟩:=hO.ownRow
   exact h A9 c9 L9 w9 (hR.keep hg.size fun b hb=>by cases hb) q1 q2 (fun b hb=>Or.inr ((q3 b hb).elim (fun e=>(hw b e).elim (fun e=>by cases e) id) (fun e=>by cases e))) ((wP hg).narrow (fun x _ e=>by cases e))
 ·
  by_cases hroom:xs.length+1<=c
  ·
   subst hsize
   have hin:∀j,j<us.length->(w.cell? ⟨b,of+xs.length*i.size+j,none⟩).isSome=true:=fun j hj=>by
    have e:(xs.length+1)*i.size=xs.length*i.size+i.size:=Nat.succ_mul _ _
    have e2:(xs.length+1)*i.size<=c*i.size:=Nat.mul_le_mul_right _ hroom
    obtain⟨u,hu⟩:=room (xs.length*i.size+j) aB
    rw[show of+xs.length*i.size+j=of+(xs.length*i.size+j) by omega,hu]
    rfl
   have hrun:=run_append_room_cells (P:=P) w t o.type E i ht hi b of xs.length c ad 1 m us aB hc hone hroom hin (fun j _=>hfz _)
   unfold Oper.wp
   simp[execOp,ho,resolve,invoke,builtin,hs,hx,hrun,Result.andThen]
   have hz:(w.setCells b (of+xs.length*i.size) us).heap.size=w.heap.size:=size_setCells us _ w
   have hbL:b∉L':=(List.nodup_cons.1 hN).1
   have far:∀x,x≠b->jL w (w.setCells b (of+xs.length*i.size) us) x:=fun x hx=>⟨fun o=>World.cell?_of_block (gR hx us _ w),fun o=>World.frozen?_of_block (gR hx us _ w)⟩
   have hold:cL (w.setCells b (of+xs.length*i.size) us) (b :: L') i.size (some ⟨b,of,none⟩) c xs:=⟨hR.1,hR.2.1,Or.inr ⟨b,of,L',rfl,by omega,fun j=>by rw[World.frozen?_setCells];exact hfz j,rfl,fun j hj=>Option.isSome_iff_exists.1 (World.isSome_setCells b us _ w _ (Option.isSome_iff_exists.2 (room j hj))),Dat.OwnRows.keep aB b xs of L' (fun j h1 h2=>World.cell?_setCells_out b us _ w ⟨b,j,none⟩ (fun _ _=>Or.inl h2)) (fun x hx=>far x (fun e=>hbL (e▸hx))) hr⟩⟩
   refine h (some ⟨b,of,none⟩) c (b :: (L'++[])) _ hold ⟨by simpa using hroom,hR.2.1,Or.inr ⟨b,of,L'++[],rfl,by omega,fun j=>by rw[World.frozen?_setCells];exact hfz j,rfl,fun j hj=>?_,Dat.OwnRows.snoc ?_ (Dat.eZ.nu (hd.keep aB _ _ _ (fun b hb=>by cases hb)) fun j hj=>?_) (by rw[<-hd.length];exact hu)⟩⟩ (by simpa using hN) (fun x hx=>Or.inl (by simpa using hx)) (nE b _ us w (fun e=>e aK))
   ·
    exact Option.isSome_iff_exists.1 (World.isSome_setCells b us _ w _ (Option.isSome_iff_exists.2 (room j hj)))
   ·
    exact Dat.OwnRows.keep aB b xs of L' (fun j h1 h2=>World.cell?_setCells_out b us _ w ⟨b,j,none⟩ (fun _ _=>Or.inl h2)) (fun x hx=>far x (fun e=>hbL (e▸hx))) hr
   ·
    rw[World.cell?_setCells_in b us _ w hin j hj]
    exact (List.getElem?_eq_getElem hj).symm
  ·
   exact grows _ rfl aB
def cz.Zz:cz->Nat->cw->cz | .mk k t s i y,j,v=>.mk k t s (i.set j v) y
def cz.add:cz->cw->cw->cz | .mk k t s i y,key,v=>.mk k t s (i++[v]) (y++[key])
def xr (x2:List cz) (m j:Nat) (v:cw):List cz:=x2.set m ((x2.getD m ph).Zz j v)
def Kl (x2:List cz) (m:Nat) (key v:cw):List cz:=x2.set m ((x2.getD m ph).add key v)
def H8 (p:Int) (n:Nat):Int:=if 120<n then 0 else if 1<=p/\p<=n+1 then p else if -(n:Int)<=p/\p<=0 then n+1+p else 0
def H9 (p:Int) (n:Nat):Bool:=decide (n<=120)&&decide (-(n:Int)<=p/\p<=n+1)
def cV.tv (v:cV):cw:=.mk v.k v.n v.i v.t v.lo v.hi
def Ea (s:cv) (r:cV):Nat:=(pQ (Cr s r.n).items 0).n.toNat
def Ia (s:cv) (r:cV):cV:=pQ (Cr s r.n).items 1
def mi (s:cv) (r v:cV):cv × Int :=
  match s with
  | .mk x0 x1 x2 x3 x4 x5 x6 x7 x8 x9 x10 x11 x12 =>
    if r.k=13\/r.k=16 then (.mk x0 x1 (xr x2 r.n.toNat r.i.toNat v.tv) x3 x4 x5 x6 x7 x8 x9 x10 x11 x12,0)
    else if r.k=14 then (.mk x0 x1 x2 (x3.set r.i.toNat v.tv) x4 x5 x6 x7 x8 x9 x10 x11 x12,0)
    else if r.k=15 then (if ((x2.getD r.n.toNat ph).items.length:Int)<=r.i then (s,205) else (.mk x0 x1 (xr x2 r.n.toNat r.i.toNat v.tv) x3 x4 x5 x6 x7 x8 x9 x10 x11 x12,0))
    else if r.k=17 then
      (if 0<=oB (x2.getD (Ea s r) ph).keys (Ia s r) then (.mk x0 x1 (xr x2 (Ea s r) (1+oB (x2.getD (Ea s r) ph).keys (Ia s r)).toNat v.tv) x3 x4 x5 x6 x7 x8 x9 x10 x11 x12,0)
       else if 40<=(x2.getD (Ea s r) ph).keys.length then (s,302)
       else (.mk x0 x1 (Kl x2 (Ea s r) (Ia s r).tv v.tv) x3 x4 x5 x6 x7 x8 x9 x10 x11 x12,0))
    else if r.i=1 then (if uy v=true then (.mk x0 x1 x2 x3 (tM v) 1 x6 x7 x8 x9 x10 x11 x12,0) else (s,103))
    else if Dk v=true then (if H9 (BA v) x4.size=true then (.mk x0 x1 x2 x3 x4 (H8 (BA v) x4.size) x6 x7 x8 x9 x10 x11 x12,0) else (s,-1))
    else (s,101)
def yo (s:cv) (r v:cV):Bool:=gJ s&&inB s r&&iX s v&&(decide (13<=r.k)&&decide (r.k<=18))
def xY (s:cv) (r v:cV):cv:=if yo s r v=true/\(mi s r v).2<=0 then (mi s r v).1 else qR
def BC (s:cv) (r v:cV):Int:=if yo s r v=true then (mi s r v).2 else 111
abbrev nr (v:cV):List Value:=[.int .i64 v.k,.int .i64 v.n,.int .i64 v.i,.string v.t,.int .i64 v.lo,.int .i64 v.hi]
theorem JF {w:World} {v:cV} (h:v.Ok):Dat.dB w [] v.tv.D (nr v):=cw.jQ h.k h.n h.i h.t h.lo h.hi
theorem QP {w:World} {L:List Nat} {A:Option Addr} {c:Nat} {xs:List cw} (h:cL w L 6 A c (xs.map cw.D)) (hn:L.Nodup) {j:Nat} (hj:j<xs.length) :
  ∃g o L',A=some ⟨g,o,none⟩/\g<w.heap.size/\(∀i,w.frozen? ⟨g,i,none⟩=false)/\L=g :: L'/\w.there g (o+j*6) 6 /\
   ∀v:cV,v.Ok->cL (w.setCells g (o+j*6) (nr v)) L 6 A c ((xs.set j v.tv).map cw.D):=by
 obtain⟨g,o,L1,Le,Lb,vs,rfl,hg,hf,rfl,hv,hl,hc,put⟩:=h.at2 j bI
 have hvl:=cw.gV (x0:=xs[j].v.k) (x1:=xs[j].v.n) (x2:=xs[j].v.i) (x3:=xs[j].v.t) (x4:=xs[j].v.lo) (x5:=xs[j].v.hi) (L:=Le) (vs:=vs) (w:=w) (by rw[List.getElem_map]at hv;cases hx:xs[j];rw[hx]at hv;exact hv)
 obtain⟨rfl,-⟩:=hvl
 have hgL:g∉L1++([]++Lb):=(List.nodup_cons.1 hn).1
 have hin:∀d,d<6->(w.cell? ⟨g,o+j*6+d,none⟩).isSome=true:=fun d hd=>by
  rw[hc d hd,List.getElem?_eq_getElem aB]
  rfl
 refine⟨g,o,L1++([]++Lb),rfl,hg,hf,rfl,fun d hd=>⟨hin d hd,hf _⟩,fun v hv=>?_⟩
 have far:∀x,x≠g->jL w (w.setCells g (o+j*6) (nr v)) x:=fun x hx=>⟨fun o=>World.cell?_of_block (gR hx _ _ w),fun o=>World.frozen?_of_block (gR hx _ _ w)⟩
 have r:=put (w.setCells g (o+j*6) (nr v)) v.tv.D (nr v) [] (JF hv) rfl (Nat.le_of_eq (size_setCells _ _ w).symm) (fun x hx=>far x (fun e=>hgL (by rw[<-e];rcases hx with q | q <;> simp[q]))) (fun i=>by rw[World.frozen?_setCells];exact hf i) (fun d hd=>World.cell?_setCells_out g _ _ w ⟨g,d,none⟩ (fun _ _=>by show d<o+j*6\/o+j*6+6<=d;exact hd)) (fun d hd=>by
  rw[World.cell?_setCells_in g (nr v) _ w (fun j hj=>hin j hj) d hd]
  exact (List.getElem?_eq_getElem hd).symm)
 rw[List.map_set]
 exact r
theorem QQ {w:World} {L2:List Nat} {A2:Option Addr} {c2:Nat} {x2:List cz} (h:cL w L2 5 A2 c2 (x2.map cz.D)) {m:Nat} (hm:m<x2.length) {k t s:Int} {i y:List cw} (hx:x2[m]=.mk k t s i y) :
  ∃g o L1 Lb A3 c3 L3 A4 c4 L4,A2=some ⟨g,o,none⟩/\g<w.heap.size/\(∀j,w.frozen? ⟨g,j,none⟩=false)/\L2=g :: (L1++((L3++L4)++Lb))/\(fD k/\fD t/\fD s)/\cL w L3 6 A3 c3 (i.map cw.D)/\cL w L4 6 A4 c4 (y.map cw.D) /\
   (w.cell? ⟨g,o+m*5,none⟩=some (.int .i64 k)/\w.cell? ⟨g,o+m*5+1,none⟩=some (.int .i64 t)/\w.cell? ⟨g,o+m*5+2,none⟩=some (.int .i64 s)/\w.cell? ⟨g,o+m*5+3,none⟩=some (.slice A3 i.length c3)/\w.cell? ⟨g,o+m*5+4,none⟩=some (.slice A4 y.length c4)) /\
   ∀(w':World) (i' y':List cw) (X3:Option Addr) (c3':Nat) (JG:List Nat) (X4:Option Addr) (X5:Nat) (JH:List Nat),cL w' JG 6 X3 c3' (i'.map cw.D)->cL w' JH 6 X4 X5 (y'.map cw.D)->w.heap.size<=w'.heap.size->(∀b,b∈L1\/b∈Lb->jL w w' b)->(∀j,w'.frozen? ⟨g,j,none⟩=false) ->
    (∀j,j≠o+m*5+3->j≠o+m*5+4->w'.cell? ⟨g,j,none⟩=w.cell? ⟨g,j,none⟩)->w'.cell? ⟨g,o+m*5+3,none⟩=some (.slice X3 i'.length c3')->w'.cell? ⟨g,o+m*5+4,none⟩=some (.slice X4 y'.length X5)->cL w' (g :: (L1++((JG++JH)++Lb))) 5 A2 c2 ((x2.set m (.mk k t s i' y')).map cz.D):=by
 obtain⟨g,o,L1,Le,Lb,vs,rfl,hg,hf,rfl,hv,hl,hc,put⟩:=h.at2 m (by simpa using hm)
 rw[List.getElem_map,hx]at hv
 obtain⟨A3,c3,L3,A4,c4,L4,rfl,rfl,hk,ht,hs,r3,r4⟩:=cz.gV hv
 refine⟨g,o,L1,Lb,A3,c3,L3,A4,c4,L4,rfl,hg,hf,rfl,⟨hk,ht,hs⟩,r3,r4,⟨hc 0 aF,hc 1 aF,hc 2 aF,hc 3 aF,hc 4 aF⟩,fun w' i' y' X3 c3' JG X4 X5 JH q3 q4 hz hS hF hC h3 h4=>?_⟩
 rw[List.map_set]
 refine put w' (cz.mk k t s i' y').D _ (JG++JH) (cz.jQ hk ht hs q3 q4) rfl hz hS hF (fun j hj=>hC j aB aB) (fun j hj=>?_)
 match j,hj with
 | 0,_=>exact (hC _ aB aB).trans (hc 0 aF)
 | 1,_=>exact (hC _ aB aB).trans (hc 1 aF)
 | 2,_=>exact (hC _ aB aB).trans (hc 2 aF)
 | 3,_=>exact h3
 | 4,_=>exact h4
 | n+5,h=>omega
structure WO (N:Nat) (w:World) (q:Nat) (t:cv) (vs:List Value) (L:List Nat):Prop where
 lt:q<w.heap.size
 fr:∀o,w.frozen? ⟨q,o,none⟩=false
 cell:∀j,j<13->w.cell? ⟨q,j,none⟩=vs[j]?
 own:Dat.dB w L t.D vs
 nd:L.Nodup
 low:∀b,b∈L->N<=b/\b≠q
theorem WO.on {N:Nat} {w w':World} {q:Nat} {t:cv} {vs:List Value} {L:List Nat} (h:WO N w q t vs L) (hb:cE w w'):WO N w' q t vs L :=
 ⟨ak h.lt hb.size,fun o=>(hb.De q h.lt o).trans (h.fr o),fun j hj=>(hb.box q h.lt j).trans (h.cell j hj),h.own.bel hb,h.nd,h.low⟩
structure lK (N:Nat) (w w':World):Prop where
 os:w'.os=w.os
 tape:w'.tape=w.tape
 output:w'.output=w.output
 size:w.heap.size<=w'.heap.size
 block:∀b,b<N->w'.heap[b]?=w.heap[b]?
theorem lK.refl (N:Nat) (w:World):lK N w w:=⟨rfl,rfl,rfl,Nat.le_refl _,fun _ _=>rfl⟩
theorem lK.trans {N:Nat} {a b c:World} (h:lK N a b) (k:lK N b c):lK N a c:=⟨k.os.trans h.os,k.tape.trans h.tape,k.output.trans h.output,al h.size k.size,fun x hx=>(k.block x hx).trans (h.block x hx)⟩
theorem lK.gI {N:Nat} {a b:World} (h:cE a b) (hN:N<=a.heap.size):lK N a b:=⟨Below.os h,Below.tape h,Below.output h,cE.size h,fun x hx=>Below.block h x aB⟩
theorem lK.Bf {N:Nat} {S:Nat->Prop} {a b:World} (h:dP S a b) (hN:N<=a.heap.size) (hS:∀x,x<N->S x):lK N a b:=⟨h.os,h.tape,h.output,h.size,fun x hx=>h.block x (hS x hx) aB⟩
theorem lK.Ap {N:Nat} {w a b:World} (h:lK N a b) (h0:cE w a) (hN:w.heap.size<=N):cE w b:=Below.trans h0 ⟨h.os,h.tape,h.output,h.size,fun i hi=>h.block i (ak hi hN)⟩
section
variable {N:Nat} {w w':World} {q:Nat} {vs:List Value} {L:List Nat} {x0:List ByteArray} {x1:List cA} {x2:List cz} {x3:List cw} {x4:ByteArray} {x5:Int} {x6 x7:List ByteArray} {x8:List cJ} {x9:Bool} {x10 x11 x12:Int}
theorem WO.parts (h:WO N w q (.mk x0 x1 x2 x3 x4 x5 x6 x7 x8 x9 x10 x11 x12) vs L):∃A0 c0 L0 A1 c1 L1 A2 c2 L2 A3 c3 L3 A6 c6 L6 A7 c7 L7 A8 c8 L8,L=L0++(L1++(L2++(L3++(L6++(L7++L8)))))/\vs=[.slice A0 x0.length c0,.slice A1 x1.length c1,.slice A2 x2.length c2,.slice A3 x3.length c3,.string x4,.int .i64 x5,.slice A6 x6.length c6,.slice A7 x7.length c7,.slice A8 x8.length c8,.bool x9,.int .i64 x10,.int .i64 x11,.int .i64 x12]/\cL w L0 1 A0 c0 (x0.map (fun x=>[Dat.str x]))/\cL w L1 3 A1 c1 (x1.map cA.D)/\cL w L2 5 A2 c2 (x2.map cz.D)/\cL w L3 6 A3 c3 (x3.map cw.D)/\x4.size<=maxLen/\fD x5/\cL w L6 1 A6 c6 (x6.map (fun x=>[Dat.str x]))/\cL w L7 1 A7 c7 (x7.map (fun x=>[Dat.str x]))/\cL w L8 2 A8 c8 (x8.map cJ.D)/\True/\fD x10/\fD x11/\fD x12:=cv.gV h.own
theorem WO.ae5 (h:WO N w q (.mk x0 x1 x2 x3 x4 x5 x6 x7 x8 x9 x10 x11 x12) vs L) {A0 A1 A2 A3 A6 A7 A8:Option Addr} {c0 c1 c2 c3 c6 c7 c8:Nat} {L0 L1 L2 L3 L6 L7 L8:List Nat} (hL:L=L0++(L1++(L2++(L3++(L6++(L7++L8)))))) (hvs:vs=[.slice A0 x0.length c0,.slice A1 x1.length c1,.slice A2 x2.length c2,.slice A3 x3.length c3,.string x4,.int .i64 x5,.slice A6 x6.length c6,.slice A7 x7.length c7,.slice A8 x8.length c8,.bool x9,.int .i64 x10,.int .i64 x11,.int .i64 x12])
  (r0:cL w L0 1 A0 c0 (x0.map (fun x=>[Dat.str x]))) (r1:cL w L1 3 A1 c1 (x1.map cA.D)) (r3:cL w L3 6 A3 c3 (x3.map cw.D)) (h4:x4.size<=maxLen) (h5:fD x5) (r6:cL w L6 1 A6 c6 (x6.map (fun x=>[Dat.str x]))) (r7:cL w L7 1 A7 c7 (x7.map (fun x=>[Dat.str x]))) (r8:cL w L8 2 A8 c8 (x8.map cJ.D)) (h10:fD x10) (h11:fD x11) (h12:fD x12)
  {L2':List Nat} {y2:List cz} (hy:y2.length=x2.length) (hr:cL w' L2' 5 A2 c2 (y2.map cz.D)) (hn:L2'.Nodup) (hb:∀b,b∈L2'->b∈L2\/w.heap.size<=b) (hN:N<=w.heap.size) (hof:dP (fun b=>b∉L2) w w'):WO N w' q (.mk x0 x1 y2 x3 x4 x5 x6 x7 x8 x9 x10 x11 x12) vs (L0++(L1++(L2'++(L3++(L6++(L7++L8)))))):=by
 subst hL
 have hnd:=h.nd
 have hlow:=h.low
 have hlt:=h.lt
 simp only[List.nodup_append,List.mem_append]at hnd
 obtain⟨n0,⟨n1,⟨n2,⟨n3,⟨n6,⟨n7,n8,d78⟩,d6⟩,d3⟩,d2⟩,d1⟩,d0⟩:=hnd
 have off:∀b,b∉L2->b<w.heap.size->jL w w' b:=fun b hb hl=>hof.same b hb hl
 have hq2:q∉L2:=fun e=>(hlow q bZ).2 rfl
 have k0:=r0.keep hof.size (fun b hb=>off b (fun e=>d0 b hb b bZ rfl) (r0.lt b hb))
 have k1:=r1.keep hof.size (fun b hb=>off b (fun e=>d1 b hb b bZ rfl) (r1.lt b hb))
 have k3:=r3.keep hof.size (fun b hb=>off b (fun e=>d2 b e b bw rfl) (r3.lt b hb))
 have k6:=r6.keep hof.size (fun b hb=>off b (fun e=>d2 b e b bw rfl) (r6.lt b hb))
 have k7:=r7.keep hof.size (fun b hb=>off b (fun e=>d2 b e b bw rfl) (r7.lt b hb))
 have k8:=r8.keep hof.size (fun b hb=>off b (fun e=>d2 b e b bw rfl) (r8.lt b hb))
 refine⟨ak hlt hof.size,fun o=>((off q hq2 hlt).2 o).trans (h.fr o),fun j hj=>((off q hq2 hlt).1 j).trans (h.cell j hj),?_,?_,fun b hb'=>?_⟩
 ·
  rw[hvs,<-hy]
  exact cv.jQ k0 k1 hr k3 h4 h5 k6 k7 k8 h10 h11 h12
 ·
  have a3:(L3++(L6++(L7++L8))).Nodup:=by
   simp only[List.nodup_append,List.mem_append]
   exact⟨n3,⟨n6,⟨n7,n8,d78⟩,d6⟩,d3⟩
  have lt3:∀b,b∈L3++(L6++(L7++L8))->b<w.heap.size:=fun b hb=>by
   simp only[List.mem_append]at hb
   rcases hb with q | q | q | q
   ·
    exact r3.lt b q
   ·
    exact r6.lt b q
   ·
    exact r7.lt b q
   ·
    exact r8.lt b q
  refine j2 n0 (j2 n1 (j2 hn a3 fun b hb' hm=>?_) fun b hb' hm=>?_) fun b hb' hm=>?_
  ·
   rcases hb b hb' with e | e
   ·
    exact d2 b e b bz rfl
   ·
    have:=lt3 b hm;omega
  ·
   rcases List.mem_append.1 hm with hm | hm
   ·
    rcases hb b hm with e | e
    ·
     exact d1 b hb' b bZ rfl
    ·
     have:=r1.lt b hb';omega
   ·
    exact d1 b hb' b bz rfl
  ·
   rcases List.mem_append.1 hm with hm | hm
   ·
    exact d0 b hb' b (by simp[hm]) rfl
   ·
    rcases List.mem_append.1 hm with hm | hm
    ·
     rcases hb b hm with e | e
     ·
      exact d0 b hb' b bZ rfl
     ·
      have:=r0.lt b hb';omega
    ·
     exact d0 b hb' b bz rfl
 ·
  simp only[List.mem_append]at hb'
  rcases hb' with e | e | e | e
  ·
   exact hlow b bZ
  ·
   exact hlow b bZ
  ·
   rcases hb b e with e | e
   ·
    exact hlow b bZ
   ·
    exact⟨by omega,by omega⟩
  ·
   exact hlow b (by simp only[List.mem_append];right;right;right;exact e)
end
section
variable {N:Nat} {w w':World} {q:Nat} {vs:List Value} {L:List Nat} {x0:List ByteArray} {x1:List cA} {x2:List cz} {x3:List cw} {x4:ByteArray} {x5:Int} {x6 x7:List ByteArray} {x8:List cJ} {x9:Bool} {x10 x11 x12:Int}
theorem WO.item (h:WO N w q (.mk x0 x1 x2 x3 x4 x5 x6 x7 x8 x9 x10 x11 x12) vs L) (hN:N<=w.heap.size) {m:Nat} (hm:m<x2.length) {k t s:Int} {i y:List cw} (hx:x2[m]=.mk k t s i y) {j:Nat} (hj:j<i.length) :
  ∃g o c2 g3 o3 c3,w.cell? ⟨q,2,none⟩=some (.slice (some ⟨g,o,none⟩) x2.length c2)/\w.cell? ⟨g,o+m*5+3,none⟩=some (.slice (some ⟨g3,o3,none⟩) i.length c3)/\g<w.heap.size/\g3<w.heap.size/\g≠q/\g3≠q/\w.there g3 (o3+j*6) 6/\(x2.length<=c2/\c2<=maxLen/\i.length<=c3/\c3<=maxLen) /\
   ∀v:cV,v.Ok->(∃L',WO N (w.setCells g3 (o3+j*6) (nr v)) q (.mk x0 x1 (x2.set m (.mk k t s (i.set j v.tv) y)) x3 x4 x5 x6 x7 x8 x9 x10 x11 x12) vs L')/\lK N w (w.setCells g3 (o3+j*6) (nr v)):=by
 obtain⟨A0,c0,L0,A1,c1,L1,A2,c2,L2,A3,c3,L3,A6,c6,L6,A7,c7,L7,A8,c8,L8,hL,hvs,r0,r1,r2,r3,h4,h5,r6,r7,r8,-,h10,h11,h12⟩:=h.parts
 have hlow2:∀b,b∈L2->N<=b/\b≠q:=fun b hb=>h.low b (by rw[hL];simp[hb])
 have LU:L2.Nodup:=by
  have h1:=h.nd
  rw[hL]at h1
  simp only[List.nodup_append]at h1
  exact h1.2.1.2.1.1
 obtain⟨g,o,La,Lb,B3,d3,M3,B4,d4,M4,rfl,hg,hf,rfl,hi,q3,q4,⟨k0,k1,k2,k3,k4⟩,put⟩:=QQ r2 hm hx
 have QR:=(List.nodup_cons.1 LU).2
 have hgn:=(List.nodup_cons.1 LU).1
 simp only[List.nodup_append,List.mem_append]at QR
 obtain⟨na,⟨⟨n3,n4,d34⟩,nb,d3b⟩,dab⟩:=QR
 obtain⟨g3,o3,M3',rfl,hg3,hf3,rfl,hth,xg⟩:=QP q3 n3 hj
 have hgg:g≠g3:=fun e=>hgn (by rw[e];simp)
 have hc2:w.cell? ⟨q,2,none⟩=some (.slice (some ⟨g,o,none⟩) x2.length c2):=by rw[h.cell 2 aF,hvs];rfl
 refine⟨g,o,c2,g3,o3,d3,hc2,k3,hg,hg3,(hlow2 g aK).2,(hlow2 g3 aK).2,hth,⟨by simpa using r2.1,r2.2.1,by simpa using q3.1,q3.2.1⟩,fun v hv=>?_⟩
 have hof:dP (fun b=>b≠g3) w (w.setCells g3 (o3+j*6) (nr v)):=nE g3 _ _ w (fun e=>e rfl)
 have same:∀b,b≠g3->jL w (w.setCells g3 (o3+j*6) (nr v)) b:=fun b hb=>⟨fun o=>World.cell?_of_block (gR hb _ _ w),fun o=>World.frozen?_of_block (gR hb _ _ w)⟩
 have hz:w.heap.size<=(w.setCells g3 (o3+j*6) (nr v)).heap.size:=hof.size
 have hrow:=put _ (i.set j v.tv) y (some ⟨g3,o3,none⟩) d3 (g3 :: M3') B4 d4 M4 (xg v hv) (q4.keep hz (fun b hb=>same b (fun e=>d34 g3 aK b hb e.symm))) hz (fun b hb=>same b (fun e=>by
   rcases hb with hb | hb
   ·
    exact dab b hb g3 aK e
   ·
    exact d3b g3 aK b hb e.symm)) (fun j=>((same g hgg).2 j).trans (hf j)) (fun j _ _=>(same g hgg).1 j) (by rw[(same g hgg).1,List.length_set];exact k3) (((same g hgg).1 _).trans k4)
 refine⟨⟨_,h.ae5 hL hvs r0 r1 r3 h4 h5 r6 r7 r8 h10 h11 h12 (List.length_set ..) hrow LU (fun b hb=>Or.inl hb) hN (hof.narrow (fun b hb e=>hb (by rw[e];simp)))⟩,lK.Bf hof hN (fun b hb e=>by have:=(hlow2 g3 aK).1;omega)⟩
theorem WO.ae7 (h:WO N w q (.mk x0 x1 x2 x3 x4 x5 x6 x7 x8 x9 x10 x11 x12) vs L) (hN:N<=w.heap.size) {j:Nat} (hj:j<x3.length) :
  ∃g3 o3 c3,w.cell? ⟨q,3,none⟩=some (.slice (some ⟨g3,o3,none⟩) x3.length c3)/\g3<w.heap.size/\g3≠q/\w.there g3 (o3+j*6) 6/\(x3.length<=c3/\c3<=maxLen) /\
   ∀v:cV,v.Ok->(∃L',WO N (w.setCells g3 (o3+j*6) (nr v)) q (.mk x0 x1 x2 (x3.set j v.tv) x4 x5 x6 x7 x8 x9 x10 x11 x12) vs L')/\lK N w (w.setCells g3 (o3+j*6) (nr v)):=by
 obtain⟨A0,c0,L0,A1,c1,L1,A2,c2,L2,A3,c3,L3,A6,c6,L6,A7,c7,L7,A8,c8,L8,hL,hvs,r0,r1,r2,r3,h4,h5,r6,r7,r8,-,h10,h11,h12⟩:=h.parts
 have X6:∀b,b∈L3->N<=b/\b≠q:=fun b hb=>h.low b (by rw[hL];simp[hb])
 have hnd:=h.nd
 rw[hL]at hnd
 simp only[List.nodup_append,List.mem_append]at hnd
 obtain⟨n0,⟨n1,⟨n2,⟨n3,⟨n6,⟨n7,n8,d78⟩,d6⟩,d3⟩,d2⟩,d1⟩,d0⟩:=hnd
 obtain⟨g3,o3,M3,rfl,hg3,hf3,rfl,hth,xg⟩:=QP r3 n3 hj
 have hc3:w.cell? ⟨q,3,none⟩=some (.slice (some ⟨g3,o3,none⟩) x3.length c3):=by rw[h.cell 3 aF,hvs];rfl
 have hq3:=(X6 g3 aK).2
 refine⟨g3,o3,c3,hc3,hg3,hq3,hth,⟨by simpa using r3.1,r3.2.1⟩,fun v hv=>?_⟩
 have hof:dP (fun b=>b≠g3) w (w.setCells g3 (o3+j*6) (nr v)):=nE g3 _ _ w (fun e=>e rfl)
 have same:∀b,b≠g3->jL w (w.setCells g3 (o3+j*6) (nr v)) b:=fun b hb=>⟨fun o=>World.cell?_of_block (gR hb _ _ w),fun o=>World.frozen?_of_block (gR hb _ _ w)⟩
 have hz:w.heap.size<=(w.setCells g3 (o3+j*6) (nr v)).heap.size:=hof.size
 refine⟨⟨L,⟨ak h.lt hz,fun o=>((same q (Ne.symm hq3)).2 o).trans (h.fr o),fun j hj=>((same q (Ne.symm hq3)).1 j).trans (h.cell j hj),?_,h.nd,h.low⟩⟩,lK.Bf hof hN (fun b hb e=>by have:=(X6 g3 aK).1;omega)⟩
 rw[hL,hvs]
 have hlen:x3.length=(x3.set j v.tv).length:=(List.length_set ..).symm
 rw[hlen]
 exact cv.jQ (r0.keep hz (fun b hb=>same b (fun e=>d0 b hb g3 aK e))) (r1.keep hz (fun b hb=>same b (fun e=>d1 b hb g3 aK e))) (r2.keep hz (fun b hb=>same b (fun e=>d2 b hb g3 aK e))) (xg v hv) h4 h5 (r6.keep hz (fun b hb=>same b (fun e=>d3 g3 aK b bw e.symm))) (r7.keep hz (fun b hb=>same b (fun e=>d3 g3 aK b bw e.symm))) (r8.keep hz (fun b hb=>same b (fun e=>d3 g3 aK b bw e.symm))) h10 h11 h12
theorem wX {w:World} {q a:Nat} {vs:List Value} {u:Value} (hc:∀j,j<13->w.cell? ⟨q,j,none⟩=vs[j]?) (ha:a<13) (hl:vs.length=13):∀j,j<13->(w.setCell ⟨q,a,none⟩ u).cell? ⟨q,j,none⟩=(vs.set a u)[j]?:=fun j hj=>by
 by_cases e:a=j
 ·
  subst e
  rw[World.cell?_setCell_same (h:=(hc a ha).trans (List.getElem?_eq_getElem (show a<vs.length by omega))),List.getElem?_set_self (show a<vs.length by omega)]
 ·
  rw[World.cell?_setCell_other _ _ _ _ (fun h=>e (by injection h)),List.getElem?_set_ne e]
  exact hc j hj
theorem WO.text (h:WO N w q (.mk x0 x1 x2 x3 x4 x5 x6 x7 x8 x9 x10 x11 x12) vs L) (hN:N<=w.heap.size) (hqN:N<=q) {t:ByteArray} (ht:t.size<=maxLen):(∃us L',WO N ((w.setCell ⟨q,4,none⟩ (.string t)).setCell ⟨q,5,none⟩ (.int .i64 1)) q (.mk x0 x1 x2 x3 t 1 x6 x7 x8 x9 x10 x11 x12) us L')/\lK N w ((w.setCell ⟨q,4,none⟩ (.string t)).setCell ⟨q,5,none⟩ (.int .i64 1)):=by
 obtain⟨A0,c0,L0,A1,c1,L1,A2,c2,L2,A3,c3,L3,A6,c6,L6,A7,c7,L7,A8,c8,L8,hL,hvs,r0,r1,r2,r3,h4,h5,r6,r7,r8,-,h10,h11,h12⟩:=h.parts
 have hof:dP (fun b=>b≠q) w ((w.setCell ⟨q,4,none⟩ (.string t)).setCell ⟨q,5,none⟩ (.int .i64 1)):=dP.set (dP.set (dP.refl _ w) (fun e=>e rfl) _) (fun e=>e rfl) _
 have low:∀b,b∈L->b≠q:=fun b hb=>(h.low b hb).2
 have same:∀b,b∈L->jL w ((w.setCell ⟨q,4,none⟩ (.string t)).setCell ⟨q,5,none⟩ (.int .i64 1)) b:=fun b hb=>hof.same b (low b hb) (h.own.lt _ _ _ b hb)
 rw[hL]at same
 have hl:vs.length=13:=by rw[hvs];rfl
 refine⟨⟨_,L,⟨by simpa using h.lt,fun o=>by simp[h.fr],wX (wX h.cell aF hl) aF (by simpa using hl),?_,h.nd,h.low⟩⟩,lK.Bf hof hN (fun b hb=>by omega)⟩
 rw[hL,hvs]
 exact cv.jQ (r0.keep hof.size (fun b hb=>same b bw)) (r1.keep hof.size (fun b hb=>same b bw)) (r2.keep hof.size (fun b hb=>same b bw)) (r3.keep hof.size (fun b hb=>same b bw)) ht (by unfold fD;omega) (r6.keep hof.size (fun b hb=>same b bw)) (r7.keep hof.size (fun b hb=>same b bw)) (r8.keep hof.size (fun b hb=>same b bw)) h10 h11 h12
theorem WO.pos (h:WO N w q (.mk x0 x1 x2 x3 x4 x5 x6 x7 x8 x9 x10 x11 x12) vs L) (hN:N<=w.heap.size) (hqN:N<=q) {p:Int} (hp:fD p):(∃us L',WO N (w.setCell ⟨q,5,none⟩ (.int .i64 p)) q (.mk x0 x1 x2 x3 x4 p x6 x7 x8 x9 x10 x11 x12) us L')/\lK N w (w.setCell ⟨q,5,none⟩ (.int .i64 p)):=by
 obtain⟨A0,c0,L0,A1,c1,L1,A2,c2,L2,A3,c3,L3,A6,c6,L6,A7,c7,L7,A8,c8,L8,hL,hvs,r0,r1,r2,r3,h4,h5,r6,r7,r8,-,h10,h11,h12⟩:=h.parts
 have hof:dP (fun b=>b≠q) w (w.setCell ⟨q,5,none⟩ (.int .i64 p)):=dP.set (dP.refl _ w) (fun e=>e rfl) _
 have low:∀b,b∈L->b≠q:=fun b hb=>(h.low b hb).2
 have same:∀b,b∈L->jL w (w.setCell ⟨q,5,none⟩ (.int .i64 p)) b:=fun b hb=>hof.same b (low b hb) (h.own.lt _ _ _ b hb)
 rw[hL]at same
 have hl:vs.length=13:=by rw[hvs];rfl
 refine⟨⟨_,L,⟨by simpa using h.lt,fun o=>by simp[h.fr],wX h.cell aF hl,?_,h.nd,h.low⟩⟩,lK.Bf hof hN (fun b hb=>by omega)⟩
 rw[hL,hvs]
 exact cv.jQ (r0.keep hof.size (fun b hb=>same b bw)) (r1.keep hof.size (fun b hb=>same b bw)) (r2.keep hof.size (fun b hb=>same b bw)) (r3.keep hof.size (fun b hb=>same b bw)) h4 hp (r6.keep hof.size (fun b hb=>same b bw)) (r7.keep hof.size (fun b hb=>same b bw)) (r8.keep hof.size (fun b hb=>same b bw)) h10 h11 h12
end
section
variable {N:Nat} {w:World} {q:Nat} {vs:List Value} {L:List Nat} {x0:List ByteArray} {x1:List cA} {x2:List cz} {x3:List cw} {x4:ByteArray} {x5:Int} {x6 x7:List ByteArray} {x8:List cJ} {x9:Bool} {x10 x11 x12:Int}
theorem WO.lists (h:WO N w q (.mk x0 x1 x2 x3 x4 x5 x6 x7 x8 x9 x10 x11 x12) vs L) (hN:N<=w.heap.size) {m:Nat} (hm:m<x2.length) {k t s:Int} {i y:List cw} (hx:x2[m]=.mk k t s i y) :
  ∃g o c2 A3 c3 L3 A4 c4 L4,w.cell? ⟨q,2,none⟩=some (.slice (some ⟨g,o,none⟩) x2.length c2)/\g<w.heap.size/\N<=g/\g≠q/\(∀j,w.frozen? ⟨g,j,none⟩=false) /\
   (w.cell? ⟨g,o+m*5,none⟩=some (.int .i64 k)/\w.cell? ⟨g,o+m*5+1,none⟩=some (.int .i64 t)/\w.cell? ⟨g,o+m*5+2,none⟩=some (.int .i64 s)/\w.cell? ⟨g,o+m*5+3,none⟩=some (.slice A3 i.length c3)/\w.cell? ⟨g,o+m*5+4,none⟩=some (.slice A4 y.length c4)) /\
   cL w L3 6 A3 c3 (i.map cw.D)/\cL w L4 6 A4 c4 (y.map cw.D)/\L3.Nodup/\L4.Nodup/\(∀b,b∈L3->N<=b/\b≠q/\b≠g/\b∉L4)/\(∀b,b∈L4->N<=b/\b≠q/\b≠g/\b∉L3)/\(x2.length<=c2/\c2<=maxLen) /\
   ∀(w':World) (i' y':List cw) (X3:Option Addr) (c3':Nat) (JG:List Nat) (X4:Option Addr) (X5:Nat) (JH:List Nat),cL w' JG 6 X3 c3' (i'.map cw.D)->cL w' JH 6 X4 X5 (y'.map cw.D)->JG.Nodup->JH.Nodup->(∀b,b∈JG->b∉JH)->(∀b,b∈JG\/b∈JH->b∈L3\/b∈L4\/w.heap.size<=b) ->
    dP (fun b=>b≠g/\b∉L3/\b∉L4) w w'->(∀j,w'.frozen? ⟨g,j,none⟩=false)->(∀j,j≠o+m*5+3->j≠o+m*5+4->w'.cell? ⟨g,j,none⟩=w.cell? ⟨g,j,none⟩)->w'.cell? ⟨g,o+m*5+3,none⟩=some (.slice X3 i'.length c3')->w'.cell? ⟨g,o+m*5+4,none⟩=some (.slice X4 y'.length X5) ->
    (∃L',WO N w' q (.mk x0 x1 (x2.set m (.mk k t s i' y')) x3 x4 x5 x6 x7 x8 x9 x10 x11 x12) vs L')/\lK N w w':=by
 obtain⟨A0,c0,L0,A1,c1,L1,A2,c2,L2,A3,c3,L3,A6,c6,L6,A7,c7,L7,A8,c8,L8,hL,hvs,r0,r1,r2,r3,h4,h5,r6,r7,r8,-,h10,h11,h12⟩:=h.parts
 have hlow2:∀b,b∈L2->N<=b/\b≠q:=fun b hb=>h.low b (by rw[hL];simp[hb])
 have LU:L2.Nodup:=by
  have h1:=h.nd
  rw[hL]at h1
  simp only[List.nodup_append]at h1
  exact h1.2.1.2.1.1
 obtain⟨g,o,La,Lb,B3,d3,M3,B4,d4,M4,rfl,hg,hf,rfl,hi,q3,q4,hcells,put⟩:=QQ r2 hm hx
 have QR:=(List.nodup_cons.1 LU).2
 have hgn:=(List.nodup_cons.1 LU).1
 simp only[List.nodup_append,List.mem_append]at QR
 obtain⟨na,⟨⟨n3,n4,d34⟩,nb,d3b⟩,dab⟩:=QR
 have hc2:w.cell? ⟨q,2,none⟩=some (.slice (some ⟨g,o,none⟩) x2.length c2):=by rw[h.cell 2 aF,hvs];rfl
 refine⟨g,o,c2,B3,d3,M3,B4,d4,M4,hc2,hg,(hlow2 g aK).1,(hlow2 g aK).2,hf,hcells,q3,q4,n3,n4,fun b hb=>⟨(hlow2 b bw).1,(hlow2 b bw).2,fun e=>hgn (by rw[<-e];simp[hb]),fun e=>d34 b hb b e rfl⟩,fun b hb=>⟨(hlow2 b bw).1,(hlow2 b bw).2,fun e=>hgn (by rw[<-e];simp[hb]),fun e=>d34 b e b hb rfl⟩,⟨by simpa using r2.1,r2.2.1⟩,?_⟩
 intro w' i' y' X3 c3' JG X4 X5 JH p3 p4 m3 m4 m34 mb hof hF hC e3 e4
 have hla:=r2.lt
 have ltA:∀b,b∈La->b<w.heap.size:=fun b hb=>hla b bw
 have ltB:∀b,b∈Lb->b<w.heap.size:=fun b hb=>hla b bw
 have na2:∀b,b∈La\/b∈Lb->b≠g/\b∉M3/\b∉M4:=fun b hb=>by
  refine⟨fun e=>hgn (by rw[<-e];rcases hb with q | q <;> simp[q]),fun e=>?_,fun e=>?_⟩
  ·
   rcases hb with q | q
   ·
    exact dab b q b bZ rfl
   ·
    exact d3b b bZ b q rfl
  ·
   rcases hb with q | q
   ·
    exact dab b q b bZ rfl
   ·
    exact d3b b bZ b q rfl
 have hrow:=put w' i' y' X3 c3' JG X4 X5 JH p3 p4 hof.size (fun b hb=>hof.same b (na2 b hb) (hb.elim (ltA b) (ltB b))) hF hC e3 e4
 have hnew:∀b,b∈JG\/b∈JH->b∉La/\b∉Lb/\b≠g:=fun b hb=>by
  rcases mb b hb with e | e | e
  ·
   exact⟨fun q=>(na2 b (Or.inl q)).2.1 e,fun q=>(na2 b (Or.inr q)).2.1 e,fun q=>hgn (by rw[<-q];simp[e])⟩
  ·
   exact⟨fun q=>(na2 b (Or.inl q)).2.2 e,fun q=>(na2 b (Or.inr q)).2.2 e,fun q=>hgn (by rw[<-q];simp[e])⟩
  ·
   exact⟨fun q=>by have:=ltA b q;omega,fun q=>by have:=ltB b q;omega,by omega⟩
 have hnn:(g :: (La++((JG++JH)++Lb))).Nodup:=by
  refine List.nodup_cons.2 ⟨fun hm=>?_,j2 na (j2 (j2 m3 m4 m34) nb fun b hb hm=>?_) fun b hb hm=>?_⟩
  ·
   simp only[List.mem_append]at hm
   rcases hm with e | (e | e) | e
   ·
    exact hgn bZ
   ·
    exact (hnew g (Or.inl e)).2.2 rfl
   ·
    exact (hnew g (Or.inr e)).2.2 rfl
   ·
    exact hgn bZ
  ·
   exact (hnew b (List.mem_append.1 hb)).2.1 hm
  ·
   simp only[List.mem_append]at hm
   rcases hm with (e | e) | e
   ·
    exact (hnew b (Or.inl e)).1 hb
   ·
    exact (hnew b (Or.inr e)).1 hb
   ·
    exact dab b hb b bZ rfl
 have hbl:∀b,b∈g :: (La++((JG++JH)++Lb))->b∈g :: (La++((M3++M4)++Lb))\/w.heap.size<=b:=fun b hb=>by
  simp only[List.mem_cons,List.mem_append]at hb |-
  rcases hb with e | e | (e | e) | e
  ·
   exact Or.inl (Or.inl e)
  ·
   exact Or.inl (Or.inr (Or.inl e))
  ·
   rcases mb b (Or.inl e)with e | e | e
   ·
    exact Or.inl (Or.inr (Or.inr (Or.inl (Or.inl e))))
   ·
    exact Or.inl (Or.inr (Or.inr (Or.inl (Or.inr e))))
   ·
    exact Or.inr e
  ·
   rcases mb b (Or.inr e)with e | e | e
   ·
    exact Or.inl (Or.inr (Or.inr (Or.inl (Or.inl e))))
   ·
    exact Or.inl (Or.inr (Or.inr (Or.inl (Or.inr e))))
   ·
    exact Or.inr e
  ·
   exact Or.inl (Or.inr (Or.inr (Or.inr e)))
 exact⟨⟨_,h.ae5 hL hvs r0 r1 r3 h4 h5 r6 r7 r8 h10 h11 h12 (List.length_set ..) hrow hnn hbl hN (hof.narrow (fun b hb=>⟨fun e=>hb bZ,fun e=>hb bZ,fun e=>hb bZ⟩))⟩,lK.Bf hof hN (fun b hb=>⟨fun e=>by have:=(hlow2 g aK).1;omega,fun e=>by have:=(hlow2 b bZ).1;omega,fun e=>by have:=(hlow2 b bZ).1;omega⟩)⟩
end
section
variable {N:Nat} {w:World} {q:Nat} {vs:List Value} {L:List Nat} {x0:List ByteArray} {x1:List cA} {x2:List cz} {x3:List cw} {x4:ByteArray} {x5:Int} {x6 x7:List ByteArray} {x8:List cJ} {x9:Bool} {x10 x11 x12:Int}
theorem lK.after {N:Nat} {a b c:World} (h:cE a b) (hN:N<=a.heap.size) (k:lK N b c):lK N a c:=(lK.gI h hN).trans k
theorem slice_inj {a b:Option Addr} {n c m d:Nat} (h:(some (Value.slice a n c))=some (.slice b m d)):a=b/\n=m/\c=d:=by simpa using h
theorem WO.CI (h:WO N w q (.mk x0 x1 x2 x3 x4 x5 x6 x7 x8 x9 x10 x11 x12) vs L) (hN:N<=w.heap.size) {m:Nat} (hm:m<x2.length) {k t s:Int} {i y:List cw} (hx:x2[m]=.mk k t s i y) {j:Nat} (hj:j<i.length) :
  ∃g o c2 g3 o3 c3,w.cell? ⟨q,2,none⟩=some (.slice (some ⟨g,o,none⟩) x2.length c2)/\w.cell? ⟨g,o+m*5+3,none⟩=some (.slice (some ⟨g3,o3,none⟩) i.length c3)/\g<w.heap.size/\g3<w.heap.size/\(x2.length<=c2/\c2<=maxLen/\i.length<=c3/\c3<=maxLen) /\
   ∀wa,cE w wa->wa.there g3 (o3+j*6) 6/\∀v:cV,v.Ok->(∃L',WO N (wa.setCells g3 (o3+j*6) (nr v)) q (.mk x0 x1 (x2.set m (.mk k t s (i.set j v.tv) y)) x3 x4 x5 x6 x7 x8 x9 x10 x11 x12) vs L')/\lK N w (wa.setCells g3 (o3+j*6) (nr v)):=by
 obtain⟨g,o,c2,g3,o3,c3,e1,e2,hg,hg3,-,-,-,hc,-⟩:=h.item hN hm hx hj
 refine⟨g,o,c2,g3,o3,c3,e1,e2,hg,hg3,hc,fun wa hb=>?_⟩
 obtain⟨g',o',c2',g3',o3',c3',f1,f2,-,-,-,-,hth,-,put⟩:=(h.on hb).item (al hN hb.size) hm hx hj
 obtain⟨k1,-,rfl⟩:=slice_inj (((hb.box q h.lt 2).trans e1).symm.trans f1)
 obtain⟨rfl,rfl⟩:g=g'/\o=o':=by simpa using k1
 obtain⟨k2,-,rfl⟩:=slice_inj (((hb.box g hg _).trans e2).symm.trans f2)
 obtain⟨rfl,rfl⟩:g3=g3'/\o3=o3':=by simpa using k2
 exact⟨hth,fun v hv=>⟨(put v hv).1,lK.after hb hN (put v hv).2⟩⟩
theorem WO.X7 (h:WO N w q (.mk x0 x1 x2 x3 x4 x5 x6 x7 x8 x9 x10 x11 x12) vs L) (hN:N<=w.heap.size) {j:Nat} (hj:j<x3.length) :
  ∃g3 o3 c3,w.cell? ⟨q,3,none⟩=some (.slice (some ⟨g3,o3,none⟩) x3.length c3)/\g3<w.heap.size/\(x3.length<=c3/\c3<=maxLen) /\
   ∀wa,cE w wa->wa.there g3 (o3+j*6) 6/\∀v:cV,v.Ok->(∃L',WO N (wa.setCells g3 (o3+j*6) (nr v)) q (.mk x0 x1 x2 (x3.set j v.tv) x4 x5 x6 x7 x8 x9 x10 x11 x12) vs L')/\lK N w (wa.setCells g3 (o3+j*6) (nr v)):=by
 obtain⟨g3,o3,c3,e1,hg3,-,-,hc,-⟩:=h.ae7 hN hj
 refine⟨g3,o3,c3,e1,hg3,hc,fun wa hb=>?_⟩
 obtain⟨g3',o3',c3',f1,-,-,hth,-,put⟩:=(h.on hb).ae7 (al hN hb.size) hj
 obtain⟨k1,-,rfl⟩:=slice_inj (((hb.box q h.lt 3).trans e1).symm.trans f1)
 obtain⟨rfl,rfl⟩:g3=g3'/\o3=o3':=by simpa using k1
 exact⟨hth,fun v hv=>⟨(put v hv).1,lK.after hb hN (put v hv).2⟩⟩
end
section
variable {N:Nat} {w:World} {q:Nat} {vs:List Value} {L:List Nat} {x0:List ByteArray} {x1:List cA} {x2:List cz} {x3:List cw} {x4:ByteArray} {x5:Int} {x6 x7:List ByteArray} {x8:List cJ} {x9:Bool} {x10 x11 x12:Int}
theorem WO.ae9 (h:WO N w q (.mk x0 x1 x2 x3 x4 x5 x6 x7 x8 x9 x10 x11 x12) vs L):∃A2 c2,w.cell? ⟨q,2,none⟩=some (.slice A2 x2.length c2)/\Row w (fun _=>True) 5 A2 c2 (x2.map cz.D):=by
 obtain⟨A0,c0,L0,A1,c1,L1,A2,c2,L2,A3,c3,L3,A6,c6,L6,A7,c7,L7,A8,c8,L8,hL,hvs,r0,r1,r2,-⟩:=h.parts
 exact⟨A2,c2,by rw[h.cell 2 aF,hvs];rfl,cL.row (fun _ _=>trivial) r2⟩
theorem WO.X8 (h:WO N w q (.mk x0 x1 x2 x3 x4 x5 x6 x7 x8 x9 x10 x11 x12) vs L) (hN:N<=w.heap.size) {m:Nat} (hm:m<x2.length) {k t s:Int} {i y:List cw} (hx:x2[m]=.mk k t s i y) :
  ∃g o c2 A4 c4 L4,w.cell? ⟨q,2,none⟩=some (.slice (some ⟨g,o,none⟩) x2.length c2)/\w.cell? ⟨g,o+m*5+4,none⟩=some (.slice A4 y.length c4)/\g<w.heap.size/\g≠q/\cL w L4 6 A4 c4 (y.map cw.D)/\L4.Nodup /\
   ∀(w9:World) (A9:Option Addr) (c9:Nat) (L9:List Nat) (y':List cw),cL w9 L9 6 A9 c9 (y'.map cw.D)->L9.Nodup->(∀b,b∈L9->b∈L4\/w.heap.size<=b)->dP (fun b=>b∉L4) w w9 ->
    w9.cell? ⟨q,2,none⟩=some (.slice (some ⟨g,o,none⟩) x2.length c2)/\w9.cell? ⟨g,o+m*5+4,none⟩=some (.slice A4 y.length c4)/\(∀j,w9.frozen? ⟨g,j,none⟩=false) /\
    (∃L',WO N (w9.setCell ⟨g,o+m*5+4,none⟩ (.slice A9 y'.length c9)) q (.mk x0 x1 (x2.set m (.mk k t s i y')) x3 x4 x5 x6 x7 x8 x9 x10 x11 x12) vs L')/\lK N w (w9.setCell ⟨g,o+m*5+4,none⟩ (.slice A9 y'.length c9)):=by
 obtain⟨g,o,c2,A3,c3,L3,A4,c4,L4,e2,hg,hgN,hgq,hf,⟨k0,k1,k2,k3,k4⟩,q3,q4,n3,n4,d3,d4,-,put⟩:=h.lists hN hm hx
 refine⟨g,o,c2,A4,c4,L4,e2,k4,hg,hgq,q4,n4,fun w9 A9 c9 L9 y' r9 n9 m9 hof=>?_⟩
 have hgL:g∉L4:=fun e=>(d4 g e).2.2.1 rfl
 have hqL:q∉L4:=fun e=>(d4 q e).2.1 rfl
 have sg:=hof.same g hgL hg
 have sq:=hof.same q hqL h.lt
 have far:∀b,b≠g->jL w9 (w9.setCell ⟨g,o+m*5+4,none⟩ (.slice A9 y'.length c9)) b:=fun b hb=>⟨fun i=>World.cell?_setCell_other _ _ _ _ (fun e=>hb (by injection e with e1;exact e1.symm)),fun i=>by simp⟩
 have hs9:(w9.setCell ⟨g,o+m*5+4,none⟩ (.slice A9 y'.length c9)).heap.size=w9.heap.size:=aK
 have hnew:∀b,b∈L9->b≠g:=fun b hb e=>by
  rcases m9 b hb with q | q
  ·
   exact (d4 b q).2.2.1 e
  ·
   omega
 refine⟨(sq.1 2).trans e2,(sg.1 _).trans k4,fun j=>(sg.2 j).trans (hf j),put _ i y' A3 c3 L3 A9 c9 L9 ((q3.keep hof.size fun b hb=>hof.same b (d3 b hb).2.2.2 (q3.lt b hb)).keep (Nat.le_of_eq hs9.symm) fun b hb=>far b (d3 b hb).2.2.1) (r9.keep (Nat.le_of_eq hs9.symm) fun b hb=>far b (hnew b hb)) n3 n9 (fun b hb h9=>?_) (fun b hb=>?_) ?_ (fun j=>by simp only[World.frozen?_setCell];exact (sg.2 j).trans (hf j)) (fun j h1 h2=>?_) ?_ ?_⟩
 ·
  rcases m9 b h9 with q | q
  ·
   exact (d3 b hb).2.2.2 q
  ·
   have:=q3.lt b hb;omega
 ·
  rcases hb with q | q
  ·
   exact Or.inl q
  ·
   exact (m9 b q).elim (fun e=>Or.inr (Or.inl e)) (fun e=>Or.inr (Or.inr e))
 ·
  exact dP.set (hof.narrow (fun b hb=>hb.2.2)) (fun e=>e.1 rfl) _
 ·
  rw[World.cell?_setCell_other _ _ _ _ (fun e=>h2 (by injection e with e1 e2 e3;exact e2.symm))]
  exact sg.1 j
 ·
  rw[World.cell?_setCell_other _ _ _ _ (fun e=>by injection e with e1 e2 e3;omega)]
  exact (sg.1 _).trans k3
 ·
  exact World.cell?_setCell_same _ _ _ ((sg.1 _).trans k4)
theorem WO.growI (h:WO N w q (.mk x0 x1 x2 x3 x4 x5 x6 x7 x8 x9 x10 x11 x12) vs L) (hN:N<=w.heap.size) {m:Nat} (hm:m<x2.length) {k t s:Int} {i y:List cw} (hx:x2[m]=.mk k t s i y) :
  ∃g o c2 A3 c3 L3,w.cell? ⟨q,2,none⟩=some (.slice (some ⟨g,o,none⟩) x2.length c2)/\w.cell? ⟨g,o+m*5+3,none⟩=some (.slice A3 i.length c3)/\g<w.heap.size/\g≠q/\cL w L3 6 A3 c3 (i.map cw.D)/\L3.Nodup /\
   ∀(w9:World) (A9:Option Addr) (c9:Nat) (L9:List Nat) (i':List cw),cL w9 L9 6 A9 c9 (i'.map cw.D)->L9.Nodup->(∀b,b∈L9->b∈L3\/w.heap.size<=b)->dP (fun b=>b∉L3) w w9 ->
    w9.cell? ⟨q,2,none⟩=some (.slice (some ⟨g,o,none⟩) x2.length c2)/\w9.cell? ⟨g,o+m*5+3,none⟩=some (.slice A3 i.length c3)/\(∀j,w9.frozen? ⟨g,j,none⟩=false) /\
    (∃L',WO N (w9.setCell ⟨g,o+m*5+3,none⟩ (.slice A9 i'.length c9)) q (.mk x0 x1 (x2.set m (.mk k t s i' y)) x3 x4 x5 x6 x7 x8 x9 x10 x11 x12) vs L')/\lK N w (w9.setCell ⟨g,o+m*5+3,none⟩ (.slice A9 i'.length c9)):=by
 obtain⟨g,o,c2,A3,c3,L3,A4,c4,L4,e2,hg,hgN,hgq,hf,⟨k0,k1,k2,k3,k4⟩,q3,q4,n3,n4,d3,d4,-,put⟩:=h.lists hN hm hx
 refine⟨g,o,c2,A3,c3,L3,e2,k3,hg,hgq,q3,n3,fun w9 A9 c9 L9 i' r9 n9 m9 hof=>?_⟩
 have hgL:g∉L3:=fun e=>(d3 g e).2.2.1 rfl
 have hqL:q∉L3:=fun e=>(d3 q e).2.1 rfl
 have sg:=hof.same g hgL hg
 have sq:=hof.same q hqL h.lt
 have far:∀b,b≠g->jL w9 (w9.setCell ⟨g,o+m*5+3,none⟩ (.slice A9 i'.length c9)) b:=fun b hb=>⟨fun i=>World.cell?_setCell_other _ _ _ _ (fun e=>hb (by injection e with e1;exact e1.symm)),fun i=>by simp⟩
 have hs9:(w9.setCell ⟨g,o+m*5+3,none⟩ (.slice A9 i'.length c9)).heap.size=w9.heap.size:=aK
 have hnew:∀b,b∈L9->b≠g:=fun b hb e=>by
  rcases m9 b hb with q | q
  ·
   exact (d3 b q).2.2.1 e
  ·
   omega
 refine⟨(sq.1 2).trans e2,(sg.1 _).trans k3,fun j=>(sg.2 j).trans (hf j),put _ i' y A9 c9 L9 A4 c4 L4 (r9.keep (Nat.le_of_eq hs9.symm) fun b hb=>far b (hnew b hb)) ((q4.keep hof.size fun b hb=>hof.same b (d4 b hb).2.2.2 (q4.lt b hb)).keep (Nat.le_of_eq hs9.symm) fun b hb=>far b (d4 b hb).2.2.1) n9 n4 (fun b h9 hb=>?_) (fun b hb=>?_) ?_ (fun j=>by simp only[World.frozen?_setCell];exact (sg.2 j).trans (hf j)) (fun j h1 h2=>?_) ?_ ?_⟩
 ·
  rcases m9 b h9 with q | q
  ·
   exact (d4 b hb).2.2.2 q
  ·
   have:=q4.lt b hb;omega
 ·
  rcases hb with q | q
  ·
   exact (m9 b q).elim (fun e=>Or.inl e) (fun e=>Or.inr (Or.inr e))
  ·
   exact Or.inr (Or.inl q)
 ·
  exact dP.set (hof.narrow (fun b hb=>hb.2.1)) (fun e=>e.1 rfl) _
 ·
  rw[World.cell?_setCell_other _ _ _ _ (fun e=>h1 (by injection e with e1 e2 e3;exact e2.symm))]
  exact sg.1 j
 ·
  exact World.cell?_setCell_same _ _ _ ((sg.1 _).trans k3)
 ·
  rw[World.cell?_setCell_other _ _ _ _ (fun e=>by injection e with e1 e2 e3;omega)]
  exact (sg.1 _).trans k4
end
theorem nF {P:Program} {w:World} {o:Oper} {a:Act} {K:Act->World->Prop} {Q:Exit->Act->World->Prop} (s x:Operand) (t:TypeId) (ho:o.op=.call { callee:=.builtin .append,args:=#[s,x],argTypes:=#[t,t] })
  (E:TypeId) (i:TypeInfo) (z:Value) (ht:P.underlying t=some (.slice E)) (hi:P.info? E=some i) (hz:i.zero=some z) (hsize:i.size=6) (hby:i.bytes=56) (hzs:z.cells.size=6)
  {L:List Nat} {A:Option Addr} {c:Nat} {xs:List cw} (hR:cL w L 6 A c (xs.map cw.D)) (hN:L.Nodup) {ad:Addr} {m:Nat} {v:cV} (hv:v.Ok) (hs:a.eval s=.slice A xs.length c) (hx:a.eval x=.slice (some ad) 1 m) (hc:∀j u,(nr v)[j]?=some u->w.cell? (ad.add j)=some u) (hlen:xs.length<=1000)
  (h:∀A9 c9 L9 w9,cL w9 L9 6 A9 c9 ((xs++[v.tv]).map cw.D)->L9.Nodup->(∀b,b∈L9->b∈L\/w.heap.size<=b)->dP (fun b=>b∉L) w w9->K (a.put o.dst (.slice A9 (xs.length+1) c9)) w9):o.wp P a w K Q :=
 Cb s x t ho E i z 6 56 ht hi hz hsize hby hzs aF hR hN (ti xs) (d:=v.tv.D) (us:=nr v) (JF hv) rfl (by rw[aj];exact hs) hx hc (by rw[aj];omega) (by rw[aj];unfold maxLen;omega)
  fun A9 c9 L9 w9 _ h2 h3 h4 h5=>by
   have k:=h A9 c9 L9 w9 (by rw[List.map_append];exact h2) h3 h4 h5
   rw[aj]
   exact k
def Gh (N:Nat) (W0 W wq:World) (q g p:Nat) (old:Value) (n:Nat) (vs:List Value) (t':cv) (lo:Nat) (sq:Value) (u:Value):Prop :=
 ∃A9 c9,u=.slice A9 n c9/\wq.cell? ⟨g,p,none⟩=some old/\(∀j,wq.frozen? ⟨g,j,none⟩=false)/\(∃L',WO N (wq.setCell ⟨g,p,none⟩ u) q t' vs L')/\lK N W0 (wq.setCell ⟨g,p,none⟩ u)/\W.heap.size<=(wq.setCell ⟨g,p,none⟩ u).heap.size/\(∀b,lo<=b->b<W.heap.size->(wq.setCell ⟨g,p,none⟩ u).heap[b]?=W.heap[b]?)/\(wq.setCell ⟨g,p,none⟩ u).cell? ⟨q,2,none⟩=some sq
theorem zJ {N:Nat} {W0 W wa w9:World} {q g p lo:Nat} {old sq:Value} {n:Nat} {vs:List Value} {t':cv} {A9:Option Addr} {c9:Nat} {L:List Nat} (hb:cE W wa) (h5:dP (fun b=>b∉L) wa w9) (hL:∀b,b∈L->b<lo) (hg:g<lo) (hgq:g≠q) (h1:w9.cell? ⟨g,p,none⟩=some old) (h2:∀j,w9.frozen? ⟨g,j,none⟩=false) (h3:∃L',WO N (w9.setCell ⟨g,p,none⟩ (.slice A9 n c9)) q t' vs L') (h4:lK N W0 (w9.setCell ⟨g,p,none⟩ (.slice A9 n c9))) (h6:w9.cell? ⟨q,2,none⟩=some sq):Gh N W0 W w9 q g p old n vs t' lo sq (.slice A9 n c9):=by
 refine⟨A9,c9,rfl,h1,h2,h3,h4,by rw[World.size_setCell];exact al hb.size h5.size,fun b hlo hlt=>?_,?_⟩
 ·
  have e:(w9.setCell ⟨g,p,none⟩ (.slice A9 n c9)).heap[b]?=w9.heap[b]?:=by
   unfold World.setCell
   split
   all_goals
    show (w9.heap.modify g _)[b]?=_
    rw[Array.getElem?_modify,if_neg aB]
  exact e.trans ((h5.block b (fun e=>by have:=hL b e;omega) (ak hlt hb.size)).trans (Below.block hb b hlt))
 ·
  rw[World.cell?_setCell_other _ _ _ _ (fun e=>hgq (by injection e))]
  exact h6
end Go.Proofs.YtjngkknbpfgdcaaGreatDoor
