import Derived.Test.YtjngkknbpfgdcaaGreatDoorPB
import Derived.OwnWalk
import Derived.Deep.RegionHeld3
import Derived.Laws.IdiomStrings
set_option linter.unusedVariables false
set_option linter.unusedSimpArgs false
set_option maxRecDepth 100000
set_option maxHeartbeats 8000000
namespace Go.Proofs.YtjngkknbpfgdcaaGreatDoor
open Go.RowKit
mutual
def Dat.Own (w:World):List Nat->Dat->Value->Prop
 | L,.int n,v=>L=[]/\v=.int .i64 n/\fD n
 | L,.str s,v=>L=[]/\v=.string s/\s.size<=maxLen
 | L,.bool b,v=>L=[]/\v=.bool b
 | L,.row k xs,v=>∃A c,v=.slice A xs.length c/\xs.length<=c/\c<=maxLen/\((xs=[]/\L=[]/\c=0)\/(∃b o L',A=some ⟨b,o,none⟩/\b<w.heap.size/\(∀i,w.frozen? ⟨b,i,none⟩=false)/\L=b :: L'/\(∀i,i<c*k->∃u,w.cell? ⟨b,o+i,none⟩=some u)/\Dat.OwnRows w k b o L' xs))
def Dat.OwnRows (w:World) (k b:Nat):Nat->List Nat->List (List Dat)->Prop
 | _,L,[]=>L=[]
 | o,L,ds :: r=>∃L1 L2,L=L1++L2/\Dat.eZ w b o L1 ds/\ds.length=k/\Dat.OwnRows w k b (o+k) L2 r
def Dat.eZ (w:World) (b:Nat):Nat->List Nat->List Dat->Prop
 | _,L,[]=>L=[]
 | o,L,d :: r=>∃L1 L2,L=L1++L2/\(∃u,w.cell? ⟨b,o,none⟩=some u/\Dat.Own w L1 d u)/\Dat.eZ w b (o+1) L2 r
end
def Dat.dB (w:World):List Nat->List Dat->List Value->Prop
 | L,[],[]=>L=[]
 | L,d :: r,v :: vs=>∃L1 L2,L=L1++L2/\Dat.Own w L1 d v/\Dat.dB w L2 r vs
 | _,_,_=>False
def cL (w:World) (L:List Nat) (k:Nat) (A:Option Addr) (c:Nat) (xs:List (List Dat)):Prop :=
 xs.length<=c/\c<=maxLen/\((xs=[]/\L=[]/\c=0)\/(∃b o L',A=some ⟨b,o,none⟩/\b<w.heap.size/\(∀i,w.frozen? ⟨b,i,none⟩=false)/\L=b :: L'/\(∀i,i<c*k->∃u,w.cell? ⟨b,o+i,none⟩=some u)/\Dat.OwnRows w k b o L' xs))
section
variable {w w':World}
theorem Dat.fh {L:List Nat} {n:Int} {v:Value}:(Dat.int n).Own w L v↔L=[]/\v=.int .i64 n/\fD n:=by simp only[Dat.Own]
theorem Dat.lE {L:List Nat} {s:ByteArray} {v:Value}:(Dat.str s).Own w L v↔L=[]/\v=.string s/\s.size<=maxLen:=by simp only[Dat.Own]
theorem Dat.xm {L:List Nat} {b:Bool} {v:Value}:(Dat.bool b).Own w L v↔L=[]/\v=.bool b:=by simp only[Dat.Own]
theorem Dat.gB {L:List Nat} {k:Nat} {xs:List (List Dat)} {v:Value}:(Dat.row k xs).Own w L v↔∃A c,v=.slice A xs.length c/\cL w L k A c xs:=by simp only[Dat.Own,cL]
def jL (w w':World) (b:Nat):Prop:=(∀o,w'.cell? ⟨b,o,none⟩=w.cell? ⟨b,o,none⟩)/\(∀o,w'.frozen? ⟨b,o,none⟩=w.frozen? ⟨b,o,none⟩)
theorem jL.refl (w:World) (b:Nat):jL w w b:=⟨fun _=>rfl,fun _=>rfl⟩
theorem jL.trans {a b c:World} {i:Nat} (h:jL a b i) (k:jL b c i):jL a c i:=⟨fun o=>(k.1 o).trans (h.1 o),fun o=>(k.2 o).trans (h.2 o)⟩
mutual
theorem Dat.Own.keep (hs:w.heap.size<=w'.heap.size):∀(d:Dat) (L:List Nat) (v:Value),(∀b,b∈L->jL w w' b)->d.Own w L v->d.Own w' L v
 | .int n,L,v,_,h=>by simpa only[Dat.Own]using h
 | .str s,L,v,_,h=>by simpa only[Dat.Own]using h
 | .bool b,L,v,_,h=>by simpa only[Dat.Own]using h
 | .row k xs,L,v,hL,h=>by
  simp only[Dat.Own]at h |-
  obtain⟨A,c,rfl,hl,hc,hx⟩:=h
  refine⟨A,c,rfl,hl,hc,?_⟩
  rcases hx with hx | ⟨b,o,L',rfl,g1,g2,rfl,gr,hr⟩
  ·
   exact Or.inl hx
  ·
   have hb:=hL b aK
   exact Or.inr ⟨b,o,L',rfl,by omega,fun i=>(hb.2 i).trans (g2 i),rfl,fun i hi=>(gr i hi).imp fun u hu=>(hb.1 _).trans hu,Dat.OwnRows.keep hs b xs o L' (fun i _ _=>hb.1 i) (fun i hi=>hL i ch) hr⟩
theorem Dat.OwnRows.keep (hs:w.heap.size<=w'.heap.size) {k:Nat} (b:Nat):∀(xs:List (List Dat)) (o:Nat) (L:List Nat),(∀i,o<=i->i<o+xs.length*k->w'.cell? ⟨b,i,none⟩=w.cell? ⟨b,i,none⟩)->(∀b,b∈L->jL w w' b)->Dat.OwnRows w k b o L xs->Dat.OwnRows w' k b o L xs
 | [],o,L,_,_,h=>by simpa only[Dat.OwnRows]using h
 | ds :: r,o,L,hb,hL,h=>by
  simp only[Dat.OwnRows]at h |-
  obtain⟨L1,L2,rfl,h1,h2,h3⟩:=h
  have e:(ds :: r).length*k=r.length*k+k:=by simp[Nat.succ_mul]
  rw[e]at hb
  exact⟨L1,L2,rfl,Dat.eZ.keep hs b ds o L1 (fun i hi hj=>hb i hi aB) (fun i hi=>hL i ch) h1,h2,Dat.OwnRows.keep hs b r (o+k) L2 (fun i hi hj=>hb i aB aB) (fun i hi=>hL i ch) h3⟩
theorem Dat.eZ.keep (hs:w.heap.size<=w'.heap.size) (b:Nat):∀(ds:List Dat) (o:Nat) (L:List Nat),(∀i,o<=i->i<o+ds.length->w'.cell? ⟨b,i,none⟩=w.cell? ⟨b,i,none⟩)->(∀b,b∈L->jL w w' b)->Dat.eZ w b o L ds->Dat.eZ w' b o L ds
 | [],o,L,_,_,h=>by simpa only[Dat.eZ]using h
 | d :: r,o,L,hb,hL,h=>by
  simp only[Dat.eZ]at h |-
  obtain⟨L1,L2,rfl,⟨u,hu,hd⟩,hr⟩:=h
  simp only[az]at hb
  exact⟨L1,L2,rfl,⟨u,(hb o aB aB).trans hu,Dat.Own.keep hs d L1 u (fun i hi=>hL i ch) hd⟩,Dat.eZ.keep hs b r (o+1) L2 (fun i hi hj=>hb i aB aB) (fun i hi=>hL i ch) hr⟩
end
theorem Dat.dB.keep (hs:w.heap.size<=w'.heap.size):∀(ds:List Dat) (L:List Nat) (vs:List Value),(∀b,b∈L->jL w w' b)->Dat.dB w L ds vs->Dat.dB w' L ds vs
 | [],_,[],_,h=>h
 | d :: r,L,v :: vs,hL,h=>by
  obtain⟨L1,L2,rfl,h1,h2⟩:=h
  exact⟨L1,L2,rfl,Dat.Own.keep hs d L1 v (fun i hi=>hL i ch) h1,Dat.dB.keep hs r L2 vs (fun i hi=>hL i ch) h2⟩
 | [],_,_ :: _,_,h=>h.elim
 | _ :: _,_,[],_,h=>h.elim
theorem cL.keep (hs:w.heap.size<=w'.heap.size) {L:List Nat} (hL:∀b,b∈L->jL w w' b) {k:Nat} {A:Option Addr} {c:Nat} {xs:List (List Dat)} (h:cL w L k A c xs):cL w' L k A c xs:=by
 have:(Dat.row k xs).Own w L (.slice A xs.length c):=Dat.gB.2 ⟨A,c,rfl,h⟩
 obtain⟨A',c',e,h'⟩:=Dat.gB.1 (Dat.Own.keep hs _ _ _ hL this)
 cases e
 exact h'
theorem cL.nil (w:World) (k:Nat) (A:Option Addr) (c:Nat) (h:c<=maxLen*0):cL w [] k A c []:=⟨by simp,al h (Nat.zero_le _),Or.inl ⟨rfl,rfl,by omega⟩⟩
mutual
theorem Dat.Own.lt:∀(d:Dat) (L:List Nat) (v:Value),d.Own w L v->∀b,b∈L->b<w.heap.size
 | .int n,L,v,h,b,hb=>by simp only[Dat.Own]at h;rw[h.1]at hb;simp at hb
 | .str s,L,v,h,b,hb=>by simp only[Dat.Own]at h;rw[h.1]at hb;simp at hb
 | .bool x,L,v,h,b,hb=>by simp only[Dat.Own]at h;rw[h.1]at hb;simp at hb
 | .row k xs,L,v,h,b,hb=>by
  simp only[Dat.Own]at h
  obtain⟨A,c,rfl,_,_,hx⟩:=h
  rcases hx with⟨_,rfl,_⟩ | ⟨b',o,L',rfl,g1,_,rfl,_,hr⟩
  ·
   simp at hb
  ·
   rcases List.mem_cons.1 hb with rfl | hb
   ·
    exact g1
   ·
    exact Dat.OwnRows.lt xs o L' hr b hb
theorem Dat.OwnRows.lt {k g:Nat}:∀(xs:List (List Dat)) (o:Nat) (L:List Nat),Dat.OwnRows w k g o L xs->∀b,b∈L->b<w.heap.size
 | [],o,L,h,b,hb=>by simp only[Dat.OwnRows]at h;rw[h]at hb;simp at hb
 | ds :: r,o,L,h,b,hb=>by
  simp only[Dat.OwnRows]at h
  obtain⟨L1,L2,rfl,h1,h2,h3⟩:=h
  rcases List.mem_append.1 hb with hb | hb
  ·
   exact Dat.eZ.lt ds o L1 h1 b hb
  ·
   exact Dat.OwnRows.lt r _ L2 h3 b hb
theorem Dat.eZ.lt {g:Nat}:∀(ds:List Dat) (o:Nat) (L:List Nat),Dat.eZ w g o L ds->∀b,b∈L->b<w.heap.size
 | [],o,L,h,b,hb=>by simp only[Dat.eZ]at h;rw[h]at hb;simp at hb
 | d :: r,o,L,h,b,hb=>by
  simp only[Dat.eZ]at h
  obtain⟨L1,L2,rfl,⟨u,hu,hd⟩,hr⟩:=h
  rcases List.mem_append.1 hb with hb | hb
  ·
   exact Dat.Own.lt d L1 u hd b hb
  ·
   exact Dat.eZ.lt r _ L2 hr b hb
end
theorem cL.lt {L:List Nat} {k:Nat} {A:Option Addr} {c:Nat} {xs:List (List Dat)} (h:cL w L k A c xs):∀b,b∈L->b<w.heap.size :=
 Dat.Own.lt (.row k xs) L (.slice A xs.length c) (Dat.gB.2 ⟨A,c,rfl,h⟩)
theorem Dat.dB.lt:∀(ds:List Dat) (L:List Nat) (vs:List Value),Dat.dB w L ds vs->∀b,b∈L->b<w.heap.size
 | [],L,[],h,b,hb=>by have:L=[]:=h;rw[this]at hb;simp at hb
 | d :: r,L,v :: vs,h,b,hb=>by
  obtain⟨L1,L2,rfl,h1,h2⟩:=h
  rcases List.mem_append.1 hb with hb | hb
  ·
   exact Dat.Own.lt d L1 v h1 b hb
  ·
   exact Dat.dB.lt r L2 vs h2 b hb
 | [],_,_ :: _,h,_,_=>h.elim
 | _ :: _,_,[],h,_,_=>h.elim
theorem cE.same (hb:cE w w') {b:Nat} (h:b<w.heap.size):jL w w' b:=⟨hb.box b h,hb.De b h⟩
theorem cL.bel (hb:cE w w') {L:List Nat} {k:Nat} {A:Option Addr} {c:Nat} {xs:List (List Dat)} (h:cL w L k A c xs):cL w' L k A c xs:=cL.keep hb.size (fun b hm=>hb.same (h.lt b hm)) h
theorem Dat.dB.bel (hb:cE w w') {L:List Nat} {ds:List Dat} {vs:List Value} (h:Dat.dB w L ds vs):Dat.dB w' L ds vs:=Dat.dB.keep hb.size _ _ _ (fun b hm=>hb.same (h.lt _ _ _ b hm)) h
mutual
theorem Dat.Own.holds {S:Nat->Prop}:∀(d:Dat) (L:List Nat) (v:Value),(∀b,b∈L->S b)->d.Own w L v->d.Holds w S v
 | .int n,L,v,_,h=>by simp only[Dat.Own]at h;simp only[Dat.Holds];exact h.2
 | .str s,L,v,_,h=>by simp only[Dat.Own]at h;simp only[Dat.Holds];exact h.2
 | .bool b,L,v,_,h=>by simp only[Dat.Own]at h;simp only[Dat.Holds];exact h.2
 | .row k xs,L,v,hL,h=>by
  simp only[Dat.Own]at h
  simp only[Dat.Holds]
  obtain⟨A,c,rfl,hl,hc,hx⟩:=h
  refine⟨A,c,rfl,hl,hc,fun hne=>?_⟩
  rcases hx with⟨h0,_⟩ | ⟨b,o,L',rfl,g1,_,rfl,_,hr⟩
  ·
   exact absurd h0 hne
  ·
   exact⟨b,o,rfl,hL b aK,g1,Dat.OwnRows.holds xs o L' (fun i hi=>hL i ch) hr⟩
theorem Dat.OwnRows.holds {S:Nat->Prop} {k b:Nat}:∀(xs:List (List Dat)) (o:Nat) (L:List Nat),(∀b,b∈L->S b)->Dat.OwnRows w k b o L xs->Dat.fI w S k b o xs
 | [],o,L,_,h=>by simp only[Dat.fI]
 | ds :: r,o,L,hL,h=>by
  simp only[Dat.OwnRows]at h
  simp only[Dat.fI]
  obtain⟨L1,L2,rfl,h1,h2,h3⟩:=h
  exact⟨Dat.eZ.holds ds o L1 (fun i hi=>hL i ch) h1,h2,Dat.OwnRows.holds r _ L2 (fun i hi=>hL i ch) h3⟩
theorem Dat.eZ.holds {S:Nat->Prop} {b:Nat}:∀(ds:List Dat) (o:Nat) (L:List Nat),(∀b,b∈L->S b)->Dat.eZ w b o L ds->Dat.fN w S b o ds
 | [],o,L,_,h=>by simp only[Dat.fN]
 | d :: r,o,L,hL,h=>by
  simp only[Dat.eZ]at h
  simp only[Dat.fN]
  obtain⟨L1,L2,rfl,⟨u,hu,hd⟩,hr⟩:=h
  exact⟨⟨u,hu,Dat.Own.holds d L1 u (fun i hi=>hL i ch) hd⟩,Dat.eZ.holds r _ L2 (fun i hi=>hL i ch) hr⟩
end
theorem cL.row {S:Nat->Prop} {L:List Nat} (hL:∀b,b∈L->S b) {k:Nat} {A:Option Addr} {c:Nat} {xs:List (List Dat)} (h:cL w L k A c xs):Row w S k A c xs:=by
 obtain⟨A',c',e,h'⟩:=Dat.fo.1 (Dat.Own.holds (.row k xs) L (.slice A xs.length c) hL (Dat.gB.2 ⟨A,c,rfl,h⟩))
 cases e
 exact h'
theorem Dat.dB.vals {S:Nat->Prop}:∀{ds:List Dat} {L:List Nat} {vs:List Value},(∀b,b∈L->S b)->Dat.dB w L ds vs->Dat.cC w S ds vs
 | [],_,[],_,_=>trivial
 | d :: r,L,v :: vs,hL,h=>by
  obtain⟨L1,L2,rfl,h1,h2⟩:=h
  exact⟨Dat.Own.holds d L1 v (fun i hi=>hL i ch) h1,Dat.dB.vals (fun i hi=>hL i ch) h2⟩
 | [],_,_ :: _,_,h=>h.elim
 | _ :: _,_,[],_,h=>h.elim
theorem Dat.eZ.nu {b:Nat}:∀{ds:List Dat} {L:List Nat} {vs:List Value} {o:Nat},Dat.dB w L ds vs->(∀j,j<vs.length->w.cell? ⟨b,o+j,none⟩=vs[j]?)->Dat.eZ w b o L ds
 | [],_,[],_,h,_=>by simp only[Dat.eZ];exact h
 | [],_,_ :: _,_,h,_=>h.elim
 | _ :: _,_,[],_,h,_=>h.elim
 | d :: r,L,v :: vs,o,h,hc=>by
  simp only[Dat.eZ]
  obtain⟨L1,L2,rfl,h1,h2⟩:=h
  refine⟨L1,L2,rfl,⟨v,by simpa using hc 0 aK,h1⟩,Dat.eZ.nu h2 fun j hj=>?_⟩
  have:=hc (j+1) bI
  rw[show o+(j+1)=o+1+j from by omega]at this
  simpa using this
theorem Dat.eZ.tJ {b:Nat}:∀{ds:List Dat} {L:List Nat} {o:Nat},Dat.eZ w b o L ds->∃vs:List Value,Dat.dB w L ds vs/\vs.length=ds.length/\∀j,j<vs.length->w.cell? ⟨b,o+j,none⟩=vs[j]?
 | [],L,_,h=>by simp only[Dat.eZ]at h;exact⟨[],h,rfl,fun _ h=>absurd h aK⟩
 | d :: r,L,o,h=>by
  simp only[Dat.eZ]at h
  obtain⟨L1,L2,rfl,⟨u,hu,hd⟩,hr⟩:=h
  obtain⟨vs,h1,h2,h3⟩:=Dat.eZ.tJ hr
  refine⟨u :: vs,⟨L1,L2,rfl,hd,h1⟩,by simp[h2],fun j hj=>?_⟩
  cases j with
  | zero=>simpa using hu
  | succ j =>
   have:=h3 j bI
   rw[show o+1+j=o+(j+1)from by omega]at this
   simpa using this
theorem Dat.dB.length:∀{ds:List Dat} {L:List Nat} {vs:List Value},Dat.dB w L ds vs->vs.length=ds.length
 | [],_,[],_=>rfl
 | d :: r,_,v :: vs,h=>by
  obtain⟨_,_,_,_,h2⟩:=h
  simpa using Dat.dB.length h2
 | [],_,_ :: _,h=>h.elim
 | _ :: _,_,[],h=>h.elim
theorem Dat.OwnRows.at {k b:Nat}:∀{xs:List (List Dat)} {o:Nat} {L:List Nat} (i:Nat) (_:Dat.OwnRows w k b o L xs) (hi:i<xs.length),∃L1 Le L2,L=L1++(Le++L2)/\Dat.eZ w b (o+i*k) Le xs[i]/\xs[i].length=k /\
  ∀(w':World) (ds:List Dat) (Ln:List Nat),ds.length=k->w.heap.size<=w'.heap.size->(∀c,c∈L1\/c∈L2->jL w w' c)->(∀j,j<o+i*k\/o+i*k+k<=j->w'.cell? ⟨b,j,none⟩=w.cell? ⟨b,j,none⟩)->Dat.eZ w' b (o+i*k) Ln ds->Dat.OwnRows w' k b o (L1++(Ln++L2)) (xs.set i ds)
 | [],_,_,_,_,h=>absurd h aK
 | x :: r,o,L,0,h,_=>by
  simp only[Dat.OwnRows]at h
  obtain⟨L1,L2,rfl,h1,h2,h3⟩:=h
  refine⟨[],L1,L2,rfl,by simpa using h1,by simpa using h2,fun w' ds Ln hd hs hL hb hc=>?_⟩
  simp only[Nat.zero_mul,Nat.add_zero]at hb hc
  simp only[ab,Dat.OwnRows]
  exact⟨Ln,L2,rfl,hc,hd,Dat.OwnRows.keep hs b r (o+k) L2 (fun i hi _=>hb i (Or.inr hi)) (fun i hi=>hL i (Or.inr hi)) h3⟩
 | x :: r,o,L,i+1,h,hi=>by
  simp only[Dat.OwnRows]at h
  obtain⟨L1,L2,rfl,h1,h2,h3⟩:=h
  obtain⟨M1,Me,M2,rfl,g1,g2,g3⟩:=Dat.OwnRows.at i h3 br
  have e:o+(i+1)*k=o+k+i*k:=by rw[Nat.add_mul];omega
  refine⟨L1++M1,Me,M2,by simp,by rw[e];simpa using g1,by simpa using g2,fun w' ds Ln hd hs hL hb hc=>?_⟩
  rw[e]at hb hc
  simp only[ae,Dat.OwnRows]
  refine⟨L1,M1++(Ln++M2),by simp,Dat.eZ.keep hs b x o L1 (fun j _ hj=>hb j (Or.inl (by rw[h2]at hj;omega))) (fun c hc=>hL c (Or.inl b7)) h1,h2,g3 w' ds Ln hd hs (fun c hc=>hL c (hc.elim (fun q=>Or.inl (by simp[q])) Or.inr)) hb hc⟩
theorem cL.at2 {k:Nat} {A:Option Addr} {c:Nat} {xs:List (List Dat)} {L:List Nat} (h:cL w L k A c xs) (i:Nat) (hi:i<xs.length) :
  ∃b o L1 Le L2 vs,A=some ⟨b,o,none⟩/\b<w.heap.size/\(∀i,w.frozen? ⟨b,i,none⟩=false)/\L=b :: (L1++(Le++L2))/\Dat.dB w Le xs[i] vs/\vs.length=k/\(∀j,j<k->w.cell? ⟨b,o+i*k+j,none⟩=vs[j]?) /\
   ∀(w':World) (ds:List Dat) (vs':List Value) (Ln:List Nat),Dat.dB w' Ln ds vs'->vs'.length=k->w.heap.size<=w'.heap.size->(∀c,c∈L1\/c∈L2->jL w w' c)->(∀i,w'.frozen? ⟨b,i,none⟩=false)->(∀j,j<o+i*k\/o+i*k+k<=j->w'.cell? ⟨b,j,none⟩=w.cell? ⟨b,j,none⟩)->(∀j,j<k->w'.cell? ⟨b,o+i*k+j,none⟩=vs'[j]?)->cL w' (b :: (L1++(Ln++L2))) k A c (xs.set i ds):=by
 obtain⟨h1,h2,h3⟩:=h
 rcases h3 with⟨rfl,_⟩ | ⟨b,o,L',rfl,g1,g2,rfl,gr,hr⟩
 ·
  simp at hi
 ·
  obtain⟨L1,Le,L2,rfl,k1,k2,k3⟩:=Dat.OwnRows.at i hr hi
  obtain⟨vs,v1,v2,v3⟩:=k1.tJ
  refine⟨b,o,L1,Le,L2,vs,rfl,g1,g2,rfl,v1,by omega,fun j hj=>v3 j aB,?_⟩
  intro w' ds vs' Ln q1 q2 hs hL hf hb hc
  refine⟨by simpa using h1,h2,Or.inr ⟨b,o,_,rfl,by omega,hf,rfl,fun j hj=>?_,k3 w' ds Ln (by rw[<-q1.length];exact q2) hs hL hb (Dat.eZ.nu q1 fun j hj=>hc j aB)⟩⟩
  rcases Nat.lt_or_ge j (i*k)with hl | hl
  ·
   rw[hb (o+j) (Or.inl aB)]
   exact gr j hj
  ·
   rcases Nat.lt_or_ge j (i*k+k)with hl2 | hl2
   ·
    have hc1:=hc (j - i*k) aB
    rw[show o+i*k+(j - i*k)=o+j by omega]at hc1
    exact⟨vs'[j - i*k]' aB,hc1.trans (List.getElem?_eq_getElem aB)⟩
   ·
    rw[hb (o+j) (Or.inr aB)]
    exact gr j hj
theorem cL.at {k:Nat} {A:Option Addr} {c:Nat} {xs:List (List Dat)} {L:List Nat} (h:cL w L k A c xs) (i:Nat) (hi:i<xs.length) :
  ∃b o L1 Le L2 vs,A=some ⟨b,o,none⟩/\b<w.heap.size/\(∀i,w.frozen? ⟨b,i,none⟩=false)/\L=b :: (L1++(Le++L2))/\Dat.dB w Le xs[i] vs/\vs.length=k/\(∀j,j<k->w.cell? ⟨b,o+i*k+j,none⟩=vs[j]?) /\
   ∀(w':World) (ds:List Dat) (vs':List Value),Dat.dB w' Le ds vs'->vs'.length=k->w.heap.size<=w'.heap.size->(∀c,c∈L1\/c∈L2->jL w w' c)->(∀i,w'.frozen? ⟨b,i,none⟩=false)->(∀j,j<o+i*k\/o+i*k+k<=j->w'.cell? ⟨b,j,none⟩=w.cell? ⟨b,j,none⟩)->(∀j,j<k->w'.cell? ⟨b,o+i*k+j,none⟩=vs'[j]?)->cL w' L k A c (xs.set i ds):=by
 obtain⟨b,o,L1,Le,L2,vs,e1,e2,e3,e4,e5,e6,e7,e8⟩:=h.at2 i hi
 exact⟨b,o,L1,Le,L2,vs,e1,e2,e3,e4,e5,e6,e7,fun w' ds vs' q1 q2 hs hL hf hb hc=>by rw[e4];exact e8 w' ds vs' Le q1 q2 hs hL hf hb hc⟩
end
structure dP (S:Nat->Prop) (w w':World):Prop where
 os:w'.os=w.os
 tape:w'.tape=w.tape
 output:w'.output=w.output
 size:w.heap.size<=w'.heap.size
 block:∀b,S b->b<w.heap.size->w'.heap[b]?=w.heap[b]?
namespace dP
variable {S:Nat->Prop} {a b c:World}
theorem same {w w':World} (h:dP S w w') (i:Nat) (hi:S i) (hl:i<w.heap.size):jL w w' i:=⟨fun o=>World.cell?_of_block (w:=w) (a:=⟨i,o,none⟩) (h.block i hi hl),fun o=>World.frozen?_of_block (w:=w) (a:=⟨i,o,none⟩) (h.block i hi hl)⟩
theorem refl (S:Nat->Prop) (w:World):dP S w w:=⟨rfl,rfl,rfl,Nat.le_refl _,fun b _ _=>rfl⟩
theorem trans (h:dP S a b) (k:dP S b c):dP S a c:=⟨k.os.trans h.os,k.tape.trans h.tape,k.output.trans h.output,al h.size k.size,fun i hS hi=>(k.block i hS (ak hi h.size)).trans (h.block i hS hi)⟩
theorem gI (S:Nat->Prop) (h:cE a b):dP S a b:=⟨Below.os h,Below.tape h,Below.output h,cE.size h,fun i _ hi=>Below.block h i hi⟩
theorem bel (h:dP S a b) (k:cE b c):dP S a c:=h.trans (gI S k)
theorem alloc (h:dP S a b) (o:Obj):dP S a (b.alloc o):=h.bel (cE.alloc (cE.refl _) o)
theorem drew (h:dP S a b):dP S a b.drew:=h.bel (cE.drew (cE.refl _))
theorem drewN (h:dP S a b) (n:Nat):dP S a (b.drewN n):=h.bel (cE.drewN (cE.refl _) n)
theorem narrow {S':Nat->Prop} (h:dP S a b) (hm:∀x,S' x->S x):dP S' a b:=⟨h.os,h.tape,h.output,h.size,fun i hi hl=>h.block i (hm i hi) hl⟩
theorem set (h:dP S a b) {p:Addr} (hp:¬S p.block) (v:Value):dP S a (b.setCell p v) :=
 h.trans ⟨rfl,rfl,rfl,by simp,fun i hS _=>Below.heap_setCell _ _ _ _ (fun e=>hp (by rw[<-e];exact hS))⟩
theorem Ap {w:World} (h:dP S a b) (h0:cE w a) (hS:∀x,x<w.heap.size->S x):cE w b:=Below.trans h0 ⟨h.os,h.tape,h.output,h.size,fun i hi=>h.block i (hS i hi) (ak hi (cE.size h0))⟩
end dP
theorem lL {S:Nat->Prop} {a b:World} (h:dP S a b:=by repeat' (first | with_reducible exact dP.refl _ _ | with_reducible refine dP.set ?_ ?_ _ | with_reducible refine dP.alloc ?_ _ | with_reducible refine dP.drew ?_ | with_reducible refine dP.drewN ?_ _ | with_reducible refine dP.bel ?_ cr | with_reducible refine dP.trans ?_ cr | (simp;done) | (simp;omega) | omega)):dP S a b:=h
theorem cL.gL {w w':World} {S:Nat->Prop} (h:dP S w w') {L:List Nat} (hd:∀x,x∈L->S x) {k:Nat} {A:Option Addr} {c:Nat} {xs:List (List Dat)} (hh:cL w L k A c xs):cL w' L k A c xs :=
 cL.keep h.size (fun b hb=>h.same b (hd b hb) (hh.lt b hb)) hh
theorem Dat.dB.gL {w w':World} {S:Nat->Prop} (h:dP S w w') {L:List Nat} (hd:∀x,x∈L->S x) {ds:List Dat} {vs:List Value} (hh:Dat.dB w L ds vs):Dat.dB w' L ds vs :=
 Dat.dB.keep h.size _ _ _ (fun b hb=>h.same b (hd b hb) (hh.lt _ _ _ b hb)) hh
theorem Row.gL {w w':World} {S0:Nat->Prop} (h:dP S0 w w') {S:Nat->Prop} (hd:∀x,S x->S0 x) {k:Nat} {A:Option Addr} {c:Nat} {xs:List (List Dat)} (hh:Row w S k A c xs):Row w' S k A c xs :=
 Row.keep h.size (fun b o hb hl=>(h.same b (hd b hb) hl).1 o) (fun _ h=>h) hh
theorem Dat.cC.gL {w w':World} {S0:Nat->Prop} (h:dP S0 w w') {S:Nat->Prop} (hd:∀x,S x->S0 x) {ds:List Dat} {vs:List Value} (hh:Dat.cC w S ds vs):Dat.cC w' S ds vs :=
 Dat.cC.keep h.size (fun b o hb hl=>(h.same b (hd b hb) hl).1 o) (fun _ h=>h) ds vs hh
def zW (w:World) (ds:List Dat) (e:Ending) (w':World):Prop :=
 ∃vs L,e=.returned (.agg vs.toArray)/\Dat.dB w' L ds vs/\L.Nodup/\(∀b,b∈L->w.heap.size<=b)/\cE w w'
def rL (w:World) (k:Nat) (xs:List (List Dat)) (e:Ending) (w':World):Prop :=
 ∃A c L,e=.returned (.slice A xs.length c)/\cL w' L k A c xs/\L.Nodup/\(∀b,b∈L->w.heap.size<=b)/\cE w w'
theorem j2 {L M:List Nat} (h1:L.Nodup) (h2:M.Nodup) (h:∀a,a∈L->a∉M):(L++M).Nodup :=
 List.nodup_append.2 ⟨h1,h2,fun a ha b hb e=>h a ha (e▸hb)⟩
theorem jK {L M:List Nat} {n:Nat} (h1:L.Nodup) (h2:M.Nodup) (h3:∀a,a∈L->a<n) (h4:∀a,a∈M->n<=a):(L++M).Nodup :=
 j2 h1 h2 fun a ha hb=>by have:=h3 a ha;have:=h4 a hb;omega
def ez (w:World) (g:Nat) (E:TypeId) (k n:Nat) (ds:List (List Dat)):Prop :=
 ds.length<=n/\(∃cur,w.heap[g]?=some (.cells cur E (0,0))/\cur.size=n*k)/\∃L,Dat.OwnRows w k g 0 L ds/\L.Nodup/\∀b,b∈L->g<b
section
variable {w w':World} {g:Nat} {E:TypeId} {k n:Nat} {ds:List (List Dat)}
theorem ez.start (w:World) (E:TypeId) (k n:Nat) {cur:Array Value} (h:cur.size=n*k):ez (w.alloc (.cells cur E)) w.heap.size E k n [] :=
 ⟨by simp,⟨cur,heap_alloc_new w _,h⟩,[],by simp only[Dat.OwnRows],by simp,by simp⟩
theorem ez.lt (h:ez w g E k n ds):g<w.heap.size:=by
 obtain⟨_,⟨cur,hc,_⟩,_⟩:=h
 rcases Nat.lt_or_ge g w.heap.size with h' | h'
 ·
  exact h'
 ·
  rw[Array.getElem?_eq_none h']at hc;cases hc
theorem ez.bel (h:ez w g E k n ds) (hb:cE w w'):ez w' g E k n ds:=by
 have hl:=h.lt
 obtain⟨h0,⟨cur,hc,hs⟩,L,h1,h2,h3⟩:=h
 exact⟨h0,⟨cur,(Below.block hb g hl).trans hc,hs⟩,L,Dat.OwnRows.keep hb.size g ds 0 L (fun i _ _=>hb.box g hl i) (fun b hm=>hb.same (Dat.OwnRows.lt _ _ _ h1 b hm)) h1,h2,h3⟩
theorem ez.cell (h:ez w g E k n ds) {i:Nat} (hi:i<n*k):∃u,w.cell? ⟨g,i,none⟩=some u:=by
 obtain⟨h0,⟨cur,hc,hs⟩,_⟩:=h
 refine⟨cur[i]' aB,?_⟩
 rw[cell_of_row w g i cur E (0,0) hc]
 exact Array.getElem?_eq_getElem aB
theorem ez.free (h:ez w g E k n ds) (i:Nat):w.frozen? ⟨g,i,none⟩=false:=by
 obtain⟨h0,⟨cur,hc,hs⟩,_⟩:=h
 simp[World.frozen?,hc]
theorem Dat.OwnRows.snoc {b:Nat}:∀{xs:List (List Dat)} {o:Nat} {L M:List Nat} {d:List Dat},Dat.OwnRows w k b o L xs->Dat.eZ w b (o+xs.length*k) M d->d.length=k->Dat.OwnRows w k b o (L++M) (xs++[d])
 | [],o,L,M,d,h,hd,hk=>by
  simp only[Dat.OwnRows]at h
  subst h
  simp only[List.nil_append,Dat.OwnRows]
  exact⟨M,[],by simp,by simpa using hd,hk,rfl⟩
 | x :: r,o,L,M,d,h,hd,hk=>by
  simp only[Dat.OwnRows]at h
  obtain⟨L1,L2,rfl,h1,h2,h3⟩:=h
  simp only[List.cons_append,Dat.OwnRows]
  refine⟨L1,L2++M,by simp,h1,h2,Dat.OwnRows.snoc h3 ?_ hk⟩
  have e:o+(x :: r).length*k=o+k+r.length*k:=by simp[Nat.succ_mul];omega
  rw[<-e]
  exact hd
theorem ez.put {W:World} (h:ez W g E k n ds) (hn:ds.length<n) (hb:cE W w) {M:List Nat} {d:List Dat} {vs:List Value} (hv:Dat.dB w M d vs) (hnd:M.Nodup) (hM:∀b,b∈M->W.heap.size<=b) (hk:vs.length=k):ez (w.setCells g (ds.length*k) vs) g E k n (ds++[d]):=by
 have hl:=h.lt
 obtain⟨h0,⟨cur,hc,hs⟩,L,h1,h2,h3⟩:=h
 have hLW:=Dat.OwnRows.lt _ _ _ h1
 have hle:ds.length*k+k<=n*k:=by rw[<-Nat.succ_mul];exact Nat.mul_le_mul_right k hn
 have hc':=(Below.block hb g hl).trans hc
 have h1':Dat.OwnRows w k g 0 L ds:=Dat.OwnRows.keep hb.size g ds 0 L (fun i _ _=>hb.box g hl i) (fun b hm=>hb.same (hLW b hm)) h1
 have hz:(w.setCells g (ds.length*k) vs).heap.size=w.heap.size:=size_setCells vs _ w
 have hg:=qg vs (ds.length*k) w cur hc'
 have ac6:∀b,b≠g->jL w (w.setCells g (ds.length*k) vs) b:=fun b hb=>by
  have e:=mB hb vs (ds.length*k) w
  exact⟨fun o=>World.cell?_of_block e,fun o=>by simp[World.frozen?,e]⟩
 have hcells:∀i,(w.setCells g (ds.length*k) vs).cell? ⟨g,i,none⟩=(nf cur (ds.length*k) vs)[i]?:=fun i=>cell_of_row _ g i _ E (0,0) hg
 refine⟨by simp;omega,⟨nf cur (ds.length*k) vs,hg,by rw[sS];exact hs⟩,L++M,?_,?_,?_⟩
 ·
  refine Dat.OwnRows.snoc (Dat.OwnRows.keep aB g ds 0 L (fun i _ hi=>?_) (fun b hm=>ac6 b (by have:=h3 b hm;omega)) h1') (Dat.eZ.nu (Dat.dB.keep aB _ _ _ (fun b hm=>ac6 b (by have:=hM b hm;omega)) hv) fun j hj=>?_) (by rw[<-hv.length];exact hk)
  ·
   rw[hcells,rG _ _ _ _ (Or.inl aB),<-cell_of_row w g i cur E (0,0) hc']
  ·
   rw[hcells,Nat.zero_add]
   exact xP vs _ cur j hj aB
 ·
  exact jK h2 hnd hLW hM
 ·
  intro b hm
  rcases List.mem_append.1 hm with hm | hm
  ·
   exact h3 b hm
  ·
   have:=hM b hm
   omega
theorem ez.snoc {α:Type} {D:α->List Dat} {l:List α} {j:Nat} {W:World} (h:ez W g E k n ((l.map D).take j)) (hj:j<l.length) (hn:l.length=n) (hb:cE W w)
  {M:List Nat} {vs:List Value} (hv:Dat.dB w M (D l[j]) vs) (hnd:M.Nodup) (hM:∀b,b∈M->W.heap.size<=b) (hk:vs.length=k):ez (w.setCells g (j*k) vs) g E k n ((l.map D).take (j+1)):=by
 have hlen:((l.map D).take j).length=j:=aD
 have:=h.put (by rw[hlen];omega) hb hv hnd hM hk
 rw[hlen]at this
 rw[take_snoc bI,List.getElem_map]
 exact this
theorem ez.done {α:Type} {D:α->List Dat} {l:List α} {j:Nat} (h:ez w g E k n ((l.map D).take j)) (hj:l.length<=j) (hn:l.length=n) (hm:n<=maxLen) :
  ∃L,cL w L k (some ⟨g,0,none⟩) n (l.map D)/\L.Nodup/\∀b,b∈L->g<=b:=by
 rw[List.take_of_length_le bI]at h
 have hl:=h.lt
 have hf:=h.free
 obtain⟨h0,⟨cur,hc,hs⟩,L,h1,h2,h3⟩:=h
 by_cases e:l=[]
 ·
  subst e
  exact⟨[],⟨by simp,hm,Or.inl ⟨rfl,rfl,by simpa using hn.symm⟩⟩,by simp,by simp⟩
 ·
  refine⟨g :: L,⟨h0,hm,Or.inr ⟨g,0,L,rfl,hl,hf,rfl,fun i hi=>⟨cur[i]' aB,?_⟩,h1⟩⟩,?_,?_⟩
  ·
   rw[Nat.zero_add,cell_of_row w g i cur E (0,0) hc]
   exact Array.getElem?_eq_getElem aB
  ·
   exact List.nodup_cons.2 ⟨fun q=>by have:=h3 g q;omega,h2⟩
  ·
   intro b hb
   rcases List.mem_cons.1 hb with rfl | hb
   ·
    exact Nat.le_refl _
   ·
    exact Nat.le_of_lt (h3 b hb)
end
def xq:Nat->Nat->ByteArray->ByteArray
 | 0,_,t=>t
 | f+1,n,t=>if n=0 then t else xq f (n / 10) (⟨#[UInt8.ofNat (48+n % 10)]⟩++t)
def markT (k:Int):ByteArray:=⟨#[109]⟩++(if k<=0 then⟨#[48]⟩ else xq 64 k.toNat ByteArray.empty)
mutual
def Dat.cnt:Dat->Nat
 | .int _=>1
 | .str _=>1
 | .bool _=>1
 | .row _ xs=>Dat.eh xs
def Dat.eh:List (List Dat)->Nat
 | []=>0
 | ds :: r=>Dat.mF ds+Dat.eh r
def Dat.mF:List Dat->Nat
 | []=>0
 | d :: r=>Dat.cnt d+Dat.mF r
end
mutual
def Dat.mark:Int->Dat->Dat
 | k,.int _=>.int k
 | k,.str _=>.str (markT k)
 | _,.bool b=>.bool b
 | k,.row n xs=>.row n (Dat.gC k xs)
def Dat.gC:Int->List (List Dat)->List (List Dat)
 | _,[]=>[]
 | k,ds :: r=>Dat.ij k ds :: Dat.gC (k+Dat.mF ds) r
def Dat.ij:Int->List Dat->List Dat
 | _,[]=>[]
 | k,d :: r=>Dat.mark k d :: Dat.ij (k+Dat.cnt d) r
end
theorem Dat.fP:∀(xs:List (List Dat)) (k:Int),(Dat.gC k xs).length=xs.length
 | [],k=>by simp[Dat.gC]
 | x :: r,k=>by simp[Dat.gC,Dat.fP r]
theorem Dat.j3:∀(l:List (List Dat)) (k:Nat) (h:k<l.length),Dat.eh (l.take (k+1))=Dat.eh (l.take k)+Dat.mF l[k]
 | x :: r,0,_=>by simp[Dat.eh]
 | x :: r,k+1,h=>by
  have:=Dat.j3 r k bM
  simp only[List.take_succ_cons,Dat.eh,ah,this]
  omega
theorem Dat.mN:∀(l:List (List Dat)) (k:Nat),Dat.eh (l.take k)<=Dat.eh l
 | [],k=>by simp
 | x :: r,0=>by simp[Dat.eh]
 | x :: r,k+1=>by
  have:=Dat.mN r k
  simp only[List.take_succ_cons,Dat.eh]
  omega
def Dat.lz (k:Int) (i:Nat) (l:List (List Dat)):List (List Dat):=Dat.gC k (l.take i)++l.drop i
theorem Dat.ET (k:Int) (l:List (List Dat)):Dat.lz k 0 l=l:=by simp[Dat.lz,Dat.gC]
theorem Dat.o6 (k:Int) (i:Nat) (l:List (List Dat)) (h:l.length<=i):Dat.lz k i l=Dat.gC k l:=by
 unfold Dat.lz;rw[List.take_of_length_le h,List.drop_of_length_le h,List.append_nil]
theorem Dat.BK (k:Int) (i:Nat) (l:List (List Dat)):(Dat.lz k i l).length=l.length:=by
 unfold Dat.lz;simp[Dat.fP];omega
theorem Dat.o0 (k:Int) (i:Nat) (l:List (List Dat)) (h:i<l.length) (h':i<(Dat.lz k i l).length):(Dat.lz k i l)[i]=l[i]:=by
 simp only[Dat.lz]
 rw[List.getElem_append_right (by simp[Dat.fP];omega)]
 simp only[List.getElem_drop,Dat.fP,List.length_take]
 congr 1
 omega
theorem Dat.Aq:∀(l:List (List Dat)) (x:List Dat) (k:Int),Dat.gC k (l++[x])=Dat.gC k l++[Dat.ij (k+Dat.eh l) x]
 | [],x,k=>by simp[Dat.gC,Dat.eh]
 | y :: r,x,k=>by
  simp only[List.cons_append,Dat.gC,Dat.eh]
  rw[Dat.Aq r x]
  congr 4
  push_cast
  omega
theorem Dat.nS (k:Int) (i:Nat) (l:List (List Dat)) (h:i<l.length):(Dat.lz k i l).set i (Dat.ij (k+Dat.eh (l.take i)) l[i])=Dat.lz k (i+1) l:=by
 unfold Dat.lz
 rw[List.take_succ_eq_append_getElem h,Dat.Aq,List.set_append,if_neg (by simp[Dat.fP];omega)]
 have e:i - (Dat.gC k (l.take i)).length=0:=by simp[Dat.fP];omega
 rw[e,List.drop_eq_getElem_cons h,ab,List.append_assoc]
 rfl
theorem Dat.oK:∀(l:List (List Dat)) (k:Int) (i:Nat) (h:i<l.length) (h':i<(Dat.gC k l).length),(Dat.gC k l)[i]=Dat.ij (k+Dat.eh (l.take i)) l[i]
 | x :: r,k,0,_,_=>by simp[Dat.gC,Dat.eh]
 | x :: r,k,i+1,h,h'=>by
  simp only[Dat.gC,ah,List.take_succ_cons,Dat.eh]
  rw[Dat.oK r _ i bM]
  congr 1
  push_cast
  omega
theorem fD.of_le {k:Int} (h0:0<=k) (h1:k<=4611686018427387904):fD k:=by unfold fD;omega
theorem Cq:∀(f n:Nat) (t:ByteArray),(xq f n t).size<=t.size+f
 | 0,_,_=>by simp[xq]
 | f+1,n,t=>by
  unfold xq
  split
  ·
   omega
  ·
   have:=Cq f (n / 10) (⟨#[UInt8.ofNat (48+n % 10)]⟩++t)
   have e:((⟨#[UInt8.ofNat (48+n % 10)]⟩:ByteArray)++t).size=1+t.size:=by rw[ByteArray.size_append];rfl
   omega
theorem wN (k:Int):(markT k).size<=65:=by
 unfold markT
 rw[ByteArray.size_append]
 have e1:(⟨#[109]⟩:ByteArray).size=1:=rfl
 split
 ·
  have e2:(⟨#[48]⟩:ByteArray).size=1:=rfl
  omega
 ·
  have:=Cq 64 k.toNat ByteArray.empty
  have e2:ByteArray.empty.size=0:=rfl
  omega
theorem ez.MG {α:Type} {D:α->List Dat} {l:List α} {w W:World} {g:Nat} {E:TypeId} {n j:Nat} {M:List Nat} {u0:Value} (h:ez W g E 1 n ((l.map D).take j)) (hj:j<l.length) (hn:l.length=n) (hb:cE W w)
  (hv:Dat.dB w M (D l[j]) [u0]) (hnd:M.Nodup) (hM:∀b,b∈M->W.heap.size<=b):ez (w.setCell ⟨g,j,none⟩ u0) g E 1 n ((l.map D).take (j+1)):=by
 have:=ez.snoc h hj hn hb hv hnd hM rfl
 rw[Nat.mul_one]at this
 exact this
theorem ez.MH {α:Type} {D:α->List Dat} {l:List α} {w W:World} {g:Nat} {E:TypeId} {n j:Nat} {M:List Nat} {u0 u1:Value} (h:ez W g E 2 n ((l.map D).take j)) (hj:j<l.length) (hn:l.length=n) (hb:cE W w)
  (hv:Dat.dB w M (D l[j]) [u0,u1]) (hnd:M.Nodup) (hM:∀b,b∈M->W.heap.size<=b):ez ((w.setCell ⟨g,j*2,none⟩ u0).setCell ⟨g,j*2+1,none⟩ u1) g E 2 n ((l.map D).take (j+1)):=by
 have:=ez.snoc h hj hn hb hv hnd hM rfl
 exact this
theorem ez.MI {α:Type} {D:α->List Dat} {l:List α} {w W:World} {g:Nat} {E:TypeId} {n j:Nat} {M:List Nat} {u0 u1 u2:Value} (h:ez W g E 3 n ((l.map D).take j)) (hj:j<l.length) (hn:l.length=n) (hb:cE W w)
  (hv:Dat.dB w M (D l[j]) [u0,u1,u2]) (hnd:M.Nodup) (hM:∀b,b∈M->W.heap.size<=b):ez (((w.setCell ⟨g,j*3,none⟩ u0).setCell ⟨g,j*3+1,none⟩ u1).setCell ⟨g,j*3+2,none⟩ u2) g E 3 n ((l.map D).take (j+1)):=by
 have:=ez.snoc h hj hn hb hv hnd hM rfl
 exact this
theorem ez.MJ {α:Type} {D:α->List Dat} {l:List α} {w W:World} {g:Nat} {E:TypeId} {n j:Nat} {M:List Nat} {u0 u1 u2 u3 u4:Value} (h:ez W g E 5 n ((l.map D).take j)) (hj:j<l.length) (hn:l.length=n) (hb:cE W w)
  (hv:Dat.dB w M (D l[j]) [u0,u1,u2,u3,u4]) (hnd:M.Nodup) (hM:∀b,b∈M->W.heap.size<=b):ez (((((w.setCell ⟨g,j*5,none⟩ u0).setCell ⟨g,j*5+1,none⟩ u1).setCell ⟨g,j*5+2,none⟩ u2).setCell ⟨g,j*5+3,none⟩ u3).setCell ⟨g,j*5+4,none⟩ u4) g E 5 n ((l.map D).take (j+1)):=by
 have:=ez.snoc h hj hn hb hv hnd hM rfl
 exact this
theorem ez.MK {α:Type} {D:α->List Dat} {l:List α} {w W:World} {g:Nat} {E:TypeId} {n j:Nat} {M:List Nat} {u0 u1 u2 u3 u4 u5:Value} (h:ez W g E 6 n ((l.map D).take j)) (hj:j<l.length) (hn:l.length=n) (hb:cE W w)
  (hv:Dat.dB w M (D l[j]) [u0,u1,u2,u3,u4,u5]) (hnd:M.Nodup) (hM:∀b,b∈M->W.heap.size<=b):ez ((((((w.setCell ⟨g,j*6,none⟩ u0).setCell ⟨g,j*6+1,none⟩ u1).setCell ⟨g,j*6+2,none⟩ u2).setCell ⟨g,j*6+3,none⟩ u3).setCell ⟨g,j*6+4,none⟩ u4).setCell ⟨g,j*6+5,none⟩ u5) g E 6 n ((l.map D).take (j+1)):=by
 have:=ez.snoc h hj hn hb hv hnd hM rfl
 exact this
theorem qS {L L1 Le L2:List Nat} {b:Nat} (h:L=b :: (L1++(Le++L2))) (hn:L.Nodup):b∈L/\(∀x,x∈Le->x∈L)/\b∉Le/\Le.Nodup/\(∀x,x∈L1\/x∈L2->x∉Le/\x≠b/\x∈L):=by
 subst h
 obtain⟨h1,h2⟩:=List.nodup_cons.1 hn
 obtain⟨h3,h4,h5⟩:=List.nodup_append.1 h2
 obtain⟨h6,h7,h8⟩:=List.nodup_append.1 h4
 refine⟨by simp,fun x hx=>by simp[hx],fun hb=>h1 bw,h6,fun x hx=>⟨fun hxe=>?_,fun e=>?_,?_⟩⟩
 ·
  rcases hx with hx | hx
  ·
   exact h5 x hx x (by simp[hxe]) rfl
  ·
   exact h8 x hxe x hx rfl
 ·
  subst e
  exact h1 (by rcases hx with hx | hx <;> simp[hx])
 ·
  rcases hx with hx | hx <;> simp[hx]
def zZ (w:World) (L:List Nat) (n:Nat) (A:Option Addr) (c:Nat) (k:Int) (xs:List (List Dat)) (e:Ending) (w':World):Prop :=
 e=.returned (.int .i64 (k+(Dat.eh xs:Nat)))/\cL w' L n A c (Dat.gC k xs)/\dP (fun x=>x∉L) w w'
theorem EG.gV {w:World} {L:List Nat} {x0:ByteArray} {vs:List Value} (h:Dat.dB w L [Dat.str x0] vs):L=[]/\vs=[.string x0]/\x0.size<=maxLen:=by
 have hl:=h.length
 match vs,hl,h with
 | [u0],_,h =>
 simp only[Dat.dB]at h
 obtain⟨M0,N0,e0,h0,en⟩:=h
 subst en e0
 obtain⟨rfl,rfl,g0⟩:=Dat.lE.1 h0
 exact⟨rfl,rfl,g0⟩
theorem J0 {w:World} {b B:Nat} {v0:Value} (h0:w.cell? ⟨b,B,none⟩=some v0):∀j,j<1->w.cell? ⟨b,B+j,none⟩=[v0][j]?
 | 0,_=>by simpa using h0
 | j+1,h=>absurd h aB
theorem JV {w:World} {b B:Nat} {v0 v1:Value} (h0:w.cell? ⟨b,B,none⟩=some v0) (h1:w.cell? ⟨b,B+1,none⟩=some v1):∀j,j<2->w.cell? ⟨b,B+j,none⟩=[v0,v1][j]?
 | 0,_=>by simpa using h0
 | 1,_=>by simpa using h1
 | j+2,h=>absurd h aB
theorem J2 {w:World} {b B:Nat} {v0 v1 v2:Value} (h0:w.cell? ⟨b,B,none⟩=some v0) (h1:w.cell? ⟨b,B+1,none⟩=some v1) (h2:w.cell? ⟨b,B+2,none⟩=some v2):∀j,j<3->w.cell? ⟨b,B+j,none⟩=[v0,v1,v2][j]?
 | 0,_=>by simpa using h0
 | 1,_=>by simpa using h1
 | 2,_=>by simpa using h2
 | j+3,h=>absurd h aB
theorem JZ {w:World} {b B:Nat} {v0 v1 v2 v3 v4:Value} (h0:w.cell? ⟨b,B,none⟩=some v0) (h1:w.cell? ⟨b,B+1,none⟩=some v1) (h2:w.cell? ⟨b,B+2,none⟩=some v2) (h3:w.cell? ⟨b,B+3,none⟩=some v3) (h4:w.cell? ⟨b,B+4,none⟩=some v4):∀j,j<5->w.cell? ⟨b,B+j,none⟩=[v0,v1,v2,v3,v4][j]?
 | 0,_=>by simpa using h0
 | 1,_=>by simpa using h1
 | 2,_=>by simpa using h2
 | 3,_=>by simpa using h3
 | 4,_=>by simpa using h4
 | j+5,h=>absurd h aB
theorem JW {w:World} {b B:Nat} {v0 v1 v2 v3 v4 v5:Value} (h0:w.cell? ⟨b,B,none⟩=some v0) (h1:w.cell? ⟨b,B+1,none⟩=some v1) (h2:w.cell? ⟨b,B+2,none⟩=some v2) (h3:w.cell? ⟨b,B+3,none⟩=some v3) (h4:w.cell? ⟨b,B+4,none⟩=some v4) (h5:w.cell? ⟨b,B+5,none⟩=some v5):∀j,j<6->w.cell? ⟨b,B+j,none⟩=[v0,v1,v2,v3,v4,v5][j]?
 | 0,_=>by simpa using h0
 | 1,_=>by simpa using h1
 | 2,_=>by simpa using h2
 | 3,_=>by simpa using h3
 | 4,_=>by simpa using h4
 | 5,_=>by simpa using h5
 | j+6,h=>absurd h aB
end Go.Proofs.YtjngkknbpfgdcaaGreatDoor
namespace Go.Proofs.YtjngkknbpfgdcaaGreatDoor
open Go.RowKit
theorem sy {P:Program} {w:World} (base:Nat) (t ty e:TypeId) (i:TypeInfo) (size:Nat) (ht:P.underlying t=some (.slice e)) (hi:P.info? e=some i) (v:Value) (n:Nat) (xs:List Value) (hown:w.ownsRow base e size v n xs) (A:Option Addr) (c:Nat) :
  (Builtin.append_ #[t,t] ty #[v,.slice A 0 c]).run P w=.ok v w:=by
 rcases hown.2 with⟨rfl,-⟩ | ⟨g,cap,cur,rfl,-,-,hn,-⟩
 all_goals cases A
 all_goals simp[Builtin.append_,run_underlying ht,sizeOf,typeInfo,hi,Builtin.lenOf,Builtin.firstCells,loadCells,loadCellsFrom,storeCells, * ]
theorem DH {P:Program} {w w':World} (t ty e:TypeId) (i:TypeInfo) (z:Value) (ht:P.underlying t=some (.slice e)) (hi:P.info? e=some i) (hz:i.zero=some z)
  {v v':Value} {n:Nat} {xs:List Value} (hown:w.ownsRow 0 e i.size v n xs) (a:Addr) (m c:Nat) {news:List Value} (hl:news.length=m*i.size) (hnews:∀j u,news[j]?=some u->w.cell? (a.add j)=some u) (h1:∀u∈news,u.oneCell'=true)
  (h63:n+m<=maxLen) (hbytes:(n+m)*i.bytes<=140737488355328) (hr:(Builtin.append_ #[t,t] ty #[v,.slice (some a) m c]).run P w=.ok v' w'):∀k,v'.ownBlock=some k->v.ownBlock=some k\/w.heap.size<=k:=by
 intro k hk
 have hsm:=h63
 unfold maxLen at hsm
 rcases hown.2 with⟨rfl,rfl⟩ | ⟨g,cap,cur,rfl,-,hg,hnc,hcm,hcs,htake⟩
 ·
  rcases Nat.eq_zero_or_pos m with rfl | hm
  ·
   rw[sy 0 t ty e i i.size ht hi _ 0 xs hown]at hr
   injection hr with hv
   subst hv
   cases hk
  ·
   rw[run_append_nil (P:=P) w t ty e i z ht hi hz a m c news hl hnews hm aB (by simp only[Nat.zero_add]at hbytes;omega)]at hr
   injection hr with hv
   subst hv
   injection hk with hk
   exact Or.inr (Nat.le_of_eq hk)
 ·
  rcases Nat.lt_or_ge cap (n+m)with hc | hc
  ·
   rw[run_append_grow (P:=P) w t ty e i z ht hi hz ⟨g,0,none⟩ n cap xs hown.1 (hown.cells (g:=g) rfl) a m c news hl hnews hc aB (growslice_fits hc hbytes)]at hr
   injection hr with hv
   subst hv
   injection hk with hk
   exact Or.inr (Nat.le_of_eq hk)
  ·
   rw[run_append_room (P:=P) w t ty e i ht hi g n cap cur hg a m c news hl hnews h1 hc (by rw[hl,hcs,<-Nat.add_mul];exact Nat.mul_le_mul_right _ hc)]at hr
   injection hr with hv
   subst hv
   exact Or.inl hk
theorem BL {P:Program} {w:World} {o:Oper} {a:Act} {K:Act->World->Prop} {Q:Exit->Act->World->Prop} (s x:Operand) (t:TypeId) (ho:o.op=.call { callee:=.builtin .append,args:=#[s,x],argTypes:=#[t,t] })
  (e:TypeId) (i:TypeInfo) (z:Value) (size bytes:Nat) (ht:P.underlying t=some (.slice e)) (hi:P.info? e=some i) (hz:i.zero=some z) (hsize:i.size=size) (hby:i.bytes=bytes) (hzs:z.cells.size=size) (hsz:0<size)
  (v:Value) (n:Nat) (xs:List Value) (hs:a.eval s=v) (hown:w.ownsRow 0 e size v n xs) (A:Option Addr) (m c:Nat) (news:List Value) (hx:a.eval x=.slice A m c) (hl:news.length=m*size) (hA:A=none->m=0)
  (hnews:∀ad,A=some ad->∀j u,news[j]?=some u->w.cell? (ad.add j)=some u) (h1:∀u∈news,u.oneCell'=true) (h63:n+m<=maxLen) (hbytes:(n+m)*bytes<=140737488355328)
  (h:∀v' w',w'.ownsRow 0 e size v' (n+m) (xs++news)->w.grownBy w' v.ownBlock->(∀k,v'.ownBlock=some k->v.ownBlock=some k\/w.heap.size<=k)->K (a.put o.dst v') w'):o.wp P a w K Q:=by
 cases A with
 | none =>
  obtain rfl:=hA rfl
  obtain rfl:news=[]:=List.eq_nil_of_length_eq_zero (by simpa using hl)
  have hrun:=sy (P:=P) 0 t o.type e i size ht hi v n xs hown none c
  unfold Oper.wp
  simp[execOp,ho,resolve,invoke,builtin,hs,hx,hrun,Result.andThen]
  exact h v w (by simpa using hown) (World.grownBy.refl _ _) (fun k hk=>Or.inl hk)
 | some ad =>
  subst hsize hby
  obtain⟨v',w',hr,h2,h3,-⟩:=run_append_own (P:=P) w 0 t o.type e i z i.size i.bytes ht hi hz rfl rfl hzs hsz v n xs hown ad m c news hl (hnews ad rfl) h1 h63 hbytes (Nat.zero_le _)
  have h5:=DH t o.type e i z ht hi hz hown ad m c hl (hnews ad rfl) h1 h63 hbytes hr
  unfold Oper.wp
  simp[execOp,ho,resolve,invoke,builtin,hs,hx,hr,Result.andThen]
  exact h v' w' h2 h3 h5
def Dat.jX (w:World) (k:Nat):List Nat->List (List Dat)->List Value->Prop
 | L,[],vs=>L=[]/\vs=[]
 | L,d :: r,vs=>∃L1 L2 v1 v2,L=L1++L2/\vs=v1++v2/\v1.length=k/\Dat.dB w L1 d v1/\Dat.jX w k L2 r v2
section
variable {w w':World} {k:Nat}
theorem Dat.jX.lt:∀{ds:List (List Dat)} {L:List Nat} {vs:List Value},Dat.jX w k L ds vs->∀b,b∈L->b<w.heap.size
 | [],L,vs,h,b,hb=>by rw[h.1]at hb;cases hb
 | d :: r,L,vs,⟨L1,L2,v1,v2,hL,hv,hl,h1,h2⟩,b,hb=>by
  subst hL
  rcases List.mem_append.1 hb with hb | hb
  ·
   exact h1.lt _ _ _ b hb
  ·
   exact Dat.jX.lt h2 b hb
theorem Dat.jX.keep (hs:w.heap.size<=w'.heap.size):∀{ds:List (List Dat)} {L:List Nat} {vs:List Value},(∀b,b∈L->jL w w' b)->Dat.jX w k L ds vs->Dat.jX w' k L ds vs
 | [],L,vs,_,h=>h
 | d :: r,L,vs,hb,⟨L1,L2,v1,v2,hL,hv,hl,h1,h2⟩=>by
  subst hL
  exact⟨L1,L2,v1,v2,rfl,hv,hl,Dat.dB.keep hs d L1 v1 (fun b h=>hb b (by simp[h])) h1,Dat.jX.keep hs (fun b h=>hb b (by simp[h])) h2⟩
theorem Dat.jX.append:∀{ds es:List (List Dat)} {L M:List Nat} {vs us:List Value},Dat.jX w k L ds vs->Dat.jX w k M es us->Dat.jX w k (L++M) (ds++es) (vs++us)
 | [],es,L,M,vs,us,h,g=>by rw[h.1,h.2];exact g
 | d :: r,es,L,M,vs,us,⟨L1,L2,v1,v2,hL,hv,hl,h1,h2⟩,g=>by
  subst hL hv
  exact⟨L1,L2++M,v1,v2++us,by simp,by simp,hl,h1,Dat.jX.append h2 g⟩
theorem Dat.jX.len:∀{ds:List (List Dat)} {L:List Nat} {vs:List Value},Dat.jX w k L ds vs->vs.length=ds.length*k
 | [],L,vs,h=>by rw[h.2];simp
 | d :: r,L,vs,⟨L1,L2,v1,v2,hL,hv,hl,h1,h2⟩=>by
  rw[hv,List.length_append,hl,Dat.jX.len h2,az,Nat.succ_mul,Nat.add_comm]
theorem Dat.Own.oneCell {d:Dat} {L:List Nat} {v:Value} (h:d.Own w L v):v.oneCell'=true:=by
 cases d with
 | int n=>rw[(Dat.fh.1 h).2.1];rfl
 | str s=>rw[(Dat.lE.1 h).2.1];rfl
 | bool b=>rw[(Dat.xm.1 h).2];rfl
 | row n xs=>obtain⟨A,c,rfl,_⟩:=Dat.gB.1 h;rfl
theorem Dat.dB.oneCell:∀{ds:List Dat} {L:List Nat} {vs:List Value},Dat.dB w L ds vs->∀u∈vs,u.oneCell'=true
 | [],_,[],_,u,hu=>by cases hu
 | d :: r,_,v :: vs,⟨L1,L2,_,h1,h2⟩,u,hu=>by
  rcases List.mem_cons.1 hu with rfl | hu
  ·
   exact h1.oneCell
  ·
   exact Dat.dB.oneCell h2 u hu
 | [],_,_ :: _,h,_,_=>h.elim
 | _ :: _,_,[],h,_,_=>h.elim
theorem Dat.jX.oneCell:∀{ds:List (List Dat)} {L:List Nat} {vs:List Value},Dat.jX w k L ds vs->∀u∈vs,u.oneCell'=true
 | [],L,vs,h,u,hu=>by rw[h.2]at hu;cases hu
 | d :: r,L,vs,⟨L1,L2,v1,v2,hL,hv,hl,h1,h2⟩,u,hu=>by
  rw[hv]at hu
  rcases List.mem_append.1 hu with hu | hu
  ·
   exact h1.oneCell u hu
  ·
   exact Dat.jX.oneCell h2 u hu
theorem Dat.jX.rows {g:Nat}:∀{ds:List (List Dat)} {L:List Nat} {vs:List Value} {o:Nat},Dat.jX w k L ds vs->(∀j,j<vs.length->w.cell? ⟨g,o+j,none⟩=vs[j]?)->Dat.OwnRows w k g o L ds
 | [],L,vs,o,h,_=>by simp only[Dat.OwnRows];exact h.1
 | d :: r,L,vs,o,⟨L1,L2,v1,v2,hL,hv,hl,h1,h2⟩,hc=>by
  subst hL hv
  simp only[Dat.OwnRows]
  refine⟨L1,L2,rfl,Dat.eZ.nu h1 (fun j hj=>?_),by rw[<-h1.length];exact hl,Dat.jX.rows h2 (fun j hj=>?_)⟩
  ·
   rw[hc j (by rw[List.length_append];omega),List.getElem?_append_left hj]
  ·
   rw[show o+k+j=o+(k+j) by omega,hc (k+j) (by rw[List.length_append];omega),List.getElem?_append_right aB,hl,Nat.add_sub_cancel_left]
def mW (v:Value) (L:List Nat) (b:Nat):Prop:=v.ownBlock=some b\/b∈L
def fp (w:World) (E:TypeId) (k:Nat) (v:Value) (L:List Nat) (ds:List (List Dat)):Prop :=
 ∃cs,w.ownsRow 0 E k v ds.length cs/\Dat.jX w k L ds cs/\L.Nodup/\∀b,v.ownBlock=some b->b∉L
variable {E:TypeId} {v:Value} {L:List Nat} {ds:List (List Dat)}
theorem fp.lt (h:fp w E k v L ds):∀b,mW v L b->b<w.heap.size:=by
 obtain⟨cs,h1,h2,-⟩:=h
 rintro b (hb | hb)
 ·
  exact (h1.lt b hb).2
 ·
  exact h2.lt b hb
theorem fp.keep (h:fp w E k v L ds) (hs:w.heap.size<=w'.heap.size) (hb:∀b,mW v L b->w'.heap[b]?=w.heap[b]?):fp w' E k v L ds:=by
 obtain⟨cs,h1,h2,h3,h4⟩:=h
 refine⟨cs,⟨h1.1,?_⟩,h2.keep hs (fun b hm=>⟨fun o=>World.cell?_of_block (hb b (Or.inr hm)),fun o=>World.frozen?_of_block (hb b (Or.inr hm))⟩),h3,h4⟩
 rcases h1.2 with hn | ⟨g,cap,cur,rfl,hz,hg,r⟩
 ·
  exact Or.inl hn
 ·
  exact Or.inr ⟨g,cap,cur,rfl,hz,(hb g (Or.inl rfl)).trans hg,r⟩
theorem fp.bel (h:fp w E k v L ds) (hb:cE w w'):fp w' E k v L ds:=h.keep hb.size fun b hm=>Below.block hb b (h.lt b hm)
theorem fp.gL {S:Nat->Prop} (h:fp w E k v L ds) (ho:dP S w w') (hS:∀b,mW v L b->S b):fp w' E k v L ds:=h.keep ho.size fun b hm=>ho.block b (hS b hm) (h.lt b hm)
theorem fp.nil (w:World) (E:TypeId) (k:Nat):fp w E k (.slice none 0 0) [] []:=⟨[],World.ownsRow_nil w 0 E k,⟨rfl,rfl⟩,List.nodup_nil,fun b h=>by cases h⟩
theorem fp.te (w:World) (E:TypeId) (k:Nat):fp (w.alloc (.cells #[] E)) E k (.slice (some ⟨w.heap.size,0,none⟩) 0 0) [] [] :=
 ⟨[],World.ownsRow_made w #[] 0 (Nat.zero_le _) aV aK,⟨rfl,rfl⟩,List.nodup_nil,fun b _ h=>by cases h⟩
theorem fp.Za {M:List Nat} {d:List Dat} {vs:List Value} (w:World) (E:TypeId) (hv:Dat.dB w M d vs) (hk:vs.length=k) (hn:M.Nodup):fp (w.alloc (.cells vs.toArray E)) E k (.slice (some ⟨w.heap.size,0,none⟩) 1 1) M [d]:=by
 refine⟨vs,⟨by simp[hk],Or.inr ⟨w.heap.size,1,vs.toArray,rfl,Nat.zero_le _,heap_alloc_new w _,by simp,by unfold maxLen;omega,by simp[hk],by simp[<-hk]⟩⟩,⟨M,[],vs,[],by simp,by simp,hk,Dat.dB.bel bl hv,rfl,rfl⟩,hn,fun b hb hm=>?_⟩
 have:=hv.lt _ _ _ b hm
 simp only[Value.ownBlock,Option.some.injEq]at hb
 omega
theorem fp.ownRow (h:fp w E k v L ds):∃A c L',v=.slice A ds.length c/\cL w L' k A c ds/\L'.Nodup/\∀b,b∈L'->mW v L b:=by
 obtain⟨cs,h1,h2,h3,h4⟩:=h
 have hl:=h2.len
 rcases h1.2 with⟨rfl,h0⟩ | ⟨g,cap,cur,rfl,hz,hg,hn,hm,hsz,ht⟩
 ·
  obtain rfl:ds=[]:=List.eq_nil_of_length_eq_zero h0
  exact⟨none,0,[],rfl,cL.nil w k none 0 aV,List.nodup_nil,fun b hb=>by cases hb⟩
 ·
  refine⟨_,cap,g :: L,rfl,⟨hn,hm,Or.inr ⟨g,0,L,rfl,(Array.getElem?_eq_some_iff.1 hg).1,fun i=>?_,rfl,fun i hi=>⟨cur[i]' aB,?_⟩,h2.rows fun j hj=>?_⟩⟩,List.nodup_cons.2 ⟨h4 g rfl,h3⟩,fun b hb=>?_⟩
  ·
   exact (World.ownsRow.frozenAt h1 i)
  ·
   rw[Nat.zero_add,cell_of_row w g i cur E (0,0) hg]
   exact Array.getElem?_eq_getElem aB
  ·
   rw[Nat.zero_add]
   exact World.ownsRow.cellAt h1 j aB
  ·
   rcases List.mem_cons.1 hb with rfl | hb
   ·
    exact Or.inl rfl
   ·
    exact Or.inr hb
theorem fp.row {S:Nat->Prop} (h:fp w E k v L ds) (hS:∀b,mW v L b->S b):∃A c,v=.slice A ds.length c/\Row w S k A c ds:=by
 obtain⟨A,c,L',h1,h2,-,h4⟩:=h.ownRow
 exact⟨A,c,h1,cL.row (fun b hb=>hS b (h4 b hb)) h2⟩
def Src (w:World) (k:Nat) (A:Option Addr) (m:Nat) (M:List Nat) (es:List (List Dat)) (news:List Value):Prop :=
 m=es.length/\(A=none->m=0)/\Dat.jX w k M es news/\M.Nodup/\∀ad,A=some ad->∀j u,news[j]?=some u->w.cell? (ad.add j)=some u
theorem fp.src {A:Option Addr} {m c:Nat} (h:fp w E k (.slice A m c) L ds):∃news,Src w k A m L ds news:=by
 obtain⟨cs,h1,h2,h3,h4⟩:=h
 refine⟨cs,?_,?_,h2,h3,?_⟩
 all_goals rcases h1.2 with⟨hv,h0⟩ | ⟨g,cap,cur,hv,hz,hg,hn,hm,hsz,ht⟩
 all_goals (simp only[Value.slice.injEq]at hv;obtain⟨rfl,rfl,rfl⟩:=hv)
 ·
  omega
 ·
  rfl
 ·
  intro _;rfl
 ·
  intro hA;cases hA
 ·
  intro ad hA;cases hA
 ·
  intro ad hA
  obtain rfl:=Option.some.inj hA
  exact h1.cells (g:=g) rfl
def Dat.flat:Dat->Prop
 | .row _ _=>False
 | _=>True
theorem Dat.cC.flat {S:Nat->Prop}:∀{ds:List Dat} {vs:List Value},(∀d∈ds,d.flat)->Dat.cC w S ds vs->Dat.dB w [] ds vs
 | [],[],_,_=>rfl
 | d :: r,v :: vs,hf,h=>by
  refine⟨[],[],rfl,?_,Dat.cC.flat (fun d hd=>hf d (by simp[hd])) h.2⟩
  have hd:=hf d aK
  have h1:=h.1
  cases d with
  | int n=>exact Dat.fh.2 ⟨rfl,Dat.dA.1 h1⟩
  | str s=>exact Dat.lE.2 ⟨rfl,Dat.gz.1 h1⟩
  | bool b=>exact Dat.xm.2 ⟨rfl,Dat.wu.1 h1⟩
  | row n xs=>exact hd.elim
 | [],_ :: _,_,h=>h.elim
 | _ :: _,[],_,h=>h.elim
theorem Dat.fI.flat {S:Nat->Prop} {b:Nat}:∀{xs:List (List Dat)} {o:Nat},(∀ds∈xs,∀d∈ds,d.flat)->Dat.fI w S k b o xs->∃news,Dat.jX w k [] xs news/\∀j,j<news.length->w.cell? ⟨b,o+j,none⟩=news[j]?
 | [],o,_,_=>⟨[],⟨rfl,rfl⟩,fun j hj=>by cases hj⟩
 | ds :: r,o,hf,h=>by
  simp only[Dat.fI]at h
  obtain⟨h1,h2,h3⟩:=h
  obtain⟨vs,g1,g2,g3⟩:=h1.tJ
  obtain⟨us,e1,e2⟩:=Dat.fI.flat (fun d hd=>hf d (by simp[hd])) h3
  refine⟨vs++us,⟨[],[],vs,us,rfl,rfl,by omega,Dat.cC.flat (hf ds aK) g1,e1⟩,fun j hj=>?_⟩
  rcases Nat.lt_or_ge j vs.length with hl | hl
  ·
   rw[g3 j hl,List.getElem?_append_left hl]
  ·
   rw[List.getElem?_append_right hl,<-e2 (j - vs.length) (by rw[List.length_append]at hj;omega)]
   congr 2
   omega
theorem Row.src {S:Nat->Prop} {A:Option Addr} {c:Nat} {xs:List (List Dat)} (hf:∀ds∈xs,∀d∈ds,d.flat) (h:Row w S k A c xs):∃news,Src w k A xs.length [] xs news:=by
 by_cases he:xs=[]
 ·
  subst he
  exact⟨[],rfl,fun _=>rfl,⟨rfl,rfl⟩,List.nodup_nil,fun ad _ j u hu=>by simp at hu⟩
 ·
  obtain⟨b,o,rfl,-,-,hr⟩:=h.2.2 he
  obtain⟨news,h1,h2⟩:=hr.flat hf
  refine⟨news,rfl,fun hA=>(by cases hA),h1,List.nodup_nil,fun ad hA j u hu=>?_⟩
  obtain rfl:=Option.some.inj hA
  have hj:j<news.length:=(List.getElem?_eq_some_iff.1 hu).1
  rw[addr_add,h2 j hj]
  exact hu
theorem Src.bel {A:Option Addr} {m:Nat} {M:List Nat} {es:List (List Dat)} {news:List Value} (h:Src w k A m M es news) (hb:cE w w'):Src w' k A m M es news:=by
 obtain⟨h1,h2,h3,h4,h5⟩:=h
 exact⟨h1,h2,h3.keep hb.size (fun b hm=>hb.same (h3.lt b hm)),h4,fun ad hA j u hu=>(Below.cell hb (En (h5 ad hA j u hu)).2).trans (h5 ad hA j u hu)⟩
end
theorem ly {P:Program} {w:World} {o:Oper} {a:Act} {K:Act->World->Prop} {Q:Exit->Act->World->Prop} (s x:Operand) (t:TypeId) (ho:o.op=.call { callee:=.builtin .append,args:=#[s,x],argTypes:=#[t,t] })
  (E:TypeId) (i:TypeInfo) (z:Value) (k bytes:Nat) (ht:P.underlying t=some (.slice E)) (hi:P.info? E=some i) (hz:i.zero=some z) (hsize:i.size=k) (hby:i.bytes=bytes) (hzs:z.cells.size=k) (hsz:0<k)
  {v:Value} {L:List Nat} {ds:List (List Dat)} (hD:fp w E k v L ds) {A:Option Addr} {m:Nat} {M:List Nat} {es:List (List Dat)} {news:List Value} (hS:Src w k A m M es news) (c:Nat) (hs:a.eval s=v) (hx:a.eval x=.slice A m c)
  (hLM:∀b,mW v L b->b∉M) (hlen:(ds.length+m)*bytes<=140737488355328) (hmax:ds.length+m<=maxLen)
  (h:∀v' w',fp w' E k v' (L++M) (ds++es)->w.grownBy w' v.ownBlock->(∀b,v'.ownBlock=some b->v.ownBlock=some b\/w.heap.size<=b)->K (a.put o.dst v') w'):o.wp P a w K Q:=by
 obtain⟨cs,h1,h2,h3,h4⟩:=hD
 obtain⟨rfl,g2,g3,g4,g5⟩:=hS
 refine BL s x t ho E i z k bytes ht hi hz hsize hby hzs hsz v ds.length cs hs h1 A es.length c news hx g3.len g2 g5 g3.oneCell hmax hlen fun v' w' q1 q2 q3=>h v' w' ⟨cs++news,by rw[List.length_append];exact q1,?_,j2 h3 g4 (fun b hb=>hLM b (Or.inr hb)),fun b hb hm=>?_⟩ q2 q3
 ·
  have same:∀b,b<w.heap.size->v.ownBlock≠some b->jL w w' b:=fun b hb hne=>by
   have e:=q2.block b hb (fun q=>hne q.symm)
   exact⟨fun o=>World.cell?_of_block e,fun o=>World.frozen?_of_block e⟩
  exact Dat.jX.append (h2.keep q2.size fun b hb=>same b (h2.lt b hb) (fun q=>h4 b q hb)) (g3.keep q2.size fun b hb=>same b (g3.lt b hb) (fun q=>hLM b (Or.inl q) hb))
 ·
  rcases q3 b hb with q | q
  ·
   rcases List.mem_append.1 hm with hm | hm
   ·
    exact h4 b q hm
   ·
    exact hLM b (Or.inl q) hm
  ·
   have:b<w.heap.size:=by
    rcases List.mem_append.1 hm with hm | hm
    ·
     exact h2.lt b hm
    ·
     exact g3.lt b hm
   omega
theorem fO {P:Program} {w:World} {ops:Array Oper} {rest:List Oper} {o:Oper} {a:Act} {Q:Exit->Act->World->Prop} (hg:o.guard=none) (s x:Operand) (t:TypeId) (ho:o.op=.call { callee:=.builtin .append,args:=#[s,x],argTypes:=#[t,t] })
  (E:TypeId) (i:TypeInfo) (z:Value) (k bytes:Nat) (ht:P.underlying t=some (.slice E)) (hi:P.info? E=some i) (hz:i.zero=some z) (hsize:i.size=k) (hby:i.bytes=bytes) (hzs:z.cells.size=k) (hsz:0<k)
  {v:Value} {L:List Nat} {ds:List (List Dat)} (hD:fp w E k v L ds) {A:Option Addr} {m:Nat} {M:List Nat} {es:List (List Dat)} {news:List Value} (hS:Src w k A m M es news) (c:Nat) (hs:a.eval s=v) (hx:a.eval x=.slice A m c)
  (hLM:∀b,mW v L b->b∉M) (hlen:(ds.length+m)*bytes<=140737488355328) (hmax:ds.length+m<=maxLen)
  (h:∀v' w',fp w' E k v' (L++M) (ds++es)->w.grownBy w' v.ownBlock->(∀b,v'.ownBlock=some b->v.ownBlock=some b\/w.heap.size<=b)->wpList P ops Q rest (a.put o.dst v') w'):wpList P ops Q (o :: rest) a w :=
 wpList_plain hg fun K hK=>ly s x t ho E i z k bytes ht hi hz hsize hby hzs hsz hD hS c hs hx hLM hlen hmax fun v' w' h1 h2 h3=>hK _ _ (h v' w' h1 h2 h3)
theorem wP {w w':World} {r:Option Nat} (h:w.grownBy w' r):dP (fun b=>r≠some b) w w' :=
 ⟨h.os,h.tape,h.output,h.size,fun b hb hl=>h.block b hl (fun q=>hb q.symm)⟩
theorem J7 (f:Nat) (t:ByteArray):xq f 0 t=t:=by cases f <;> simp[xq]
theorem Ov (f m:Nat) (t:ByteArray) (h:m≠0):xq (f+1) m t=xq f (m / 10) (⟨#[UInt8.ofNat (48+m % 10)]⟩++t):=by rw[xq,if_neg h]
def rR (K m f:Nat) (t:ByteArray):Prop:=xq f m t=xq 64 K ByteArray.empty/\m<10 ^ f/\t.size+f<=64/\m<9223372036854775808
theorem rR.start {K:Nat} (h:K<9223372036854775808):rR K K 64 ByteArray.empty:=⟨rfl,ak h aF,by decide,h⟩
theorem rR.next {K m f:Nat} {t:ByteArray} (h:rR K m f t) (hm:m≠0):∃f',rR K (m / 10) f' (⟨#[UInt8.ofNat (48+m % 10)]⟩++t):=by
 obtain⟨h1,h2,h3,h4⟩:=h
 cases f with
 | zero=>simp at h2;omega
 | succ f =>
  refine⟨f,by rw[<-Ov f m t hm];exact h1,?_,?_,by omega⟩
  ·
   rw[Nat.pow_succ]at h2
   exact Nat.div_lt_of_lt_mul (by rw[Nat.mul_comm];exact h2)
  ·
   have e:((⟨#[UInt8.ofNat (48+m % 10)]⟩:ByteArray)++t).size=1+t.size:=by rw[ByteArray.size_append];rfl
   omega
theorem rR.done {K f:Nat} {t:ByteArray} (h:rR K 0 f t):xq 64 K ByteArray.empty=t:=by rw[<-h.1,J7]
theorem jv {α:Type} (D:α->List Dat):∀(l:List α),(∀i (hi:i<l.length),Dat.mF (D l[i])<=16+16*Dat.mg (D l[i]))->Dat.eh (l.map D)<=16*(l.length+Dat.jE (l.map D))
 | [],_=>by simp[Dat.eh,Dat.jE]
 | x :: r,h=>by
  have h0:=h 0 aK
  have h1:=jv D r (fun i hi=>h (i+1) br)
  simp only[ag]at h0
  simp only[List.map_cons,Dat.eh,Dat.jE,az]
  omega
theorem lF (k:Int) (w:World) (hk:k<=4611686018427387904) (hk0:0<=k) :
  Calls Tryz.prog 118 #[.int .i64 k] w fun e w'=>e=.returned (.string (markT k))/\cE w w':=by
 rcases Int.lt_or_le 0 k with h | h
 ·
  obtain⟨K,rfl⟩:=Int.eq_ofNat_of_zero_le hk0
  have d1:decide ((K:Int)<=0)=false:=aD
  have HK:=hide (rR.start (K:=K) aB)
  have HT:=hide (show markT (K:Int)=⟨#[109]⟩++xq 64 K ByteArray.empty by unfold markT;rw[if_neg aB,Int.toNat_natCast])
  go_enter Tryz.func118,Tryz.ntmps118
  go_wp2_with (fail)
  go_loopw [0,3] (fun kv tv wr=>∃(m f:Nat) (t:ByteArray),kv=.int .i64 m/\tv=.string t/\Hid (rR K m f t)/\cE w wr) (fun kv _ _=>(intOf kv).toNat)
  case atStart=>exact⟨K,64,ByteArray.empty,rfl,rfl,HK.out,bl⟩
  case round =>
   obtain⟨m,f,t,rfl,rfl,hd,hbw⟩:=hrel
   have hm:=hd.out.2.2.2
   have ht:=hd.out.2.2.1
   rcases Nat.eq_zero_or_pos m with rfl | hpos
   ·
    have HD:=hide hd.out.done
    go_wp2_with (fail)
    all_goals
     go_returns
     exact⟨by rw[HT.out,HD.out];first | done | rfl,bl⟩
   ·
    have d2:decide (0<(m:Int))=true:=aD
    obtain⟨f',hn⟩:=hd.out.next aB
    have HN:=hide hn
    clear hn
    have hc:(convert 22 9 (.slice (some ⟨wr.heap.size,0,none⟩) 1 1)).run Tryz.prog (wr.alloc (.cells #[.int .u8 (48+(m:Int) % 10)] 5))=.ok (.string ⟨#[UInt8.ofNat (48+m % 10)]⟩) (wr.alloc (.cells #[.int .u8 (48+(m:Int) % 10)] 5)):=by
     refine run_convert_bytes_back (P:=Tryz.prog) (wr.alloc (.cells #[.int .u8 (48+(m:Int) % 10)] 5)) _ _ 5 ⟨wr.heap.size,0,none⟩ 1 [UInt8.ofNat (48+m % 10)] Tryz.underlying22 Tryz.underlying5 Tryz.underlying9 (fun j hj=>?_)
     obtain rfl:j=0:=by simpa using hj
     rw[show (⟨wr.heap.size,0,none⟩:Addr).add 0=⟨wr.heap.size,0,none⟩from rfl,World.cell?_alloc_mark]
     simp only[List.getElem?_toArray,List.getElem?_cons_zero,ag,Option.some.injEq,Value.int.injEq,true_and]
     rw[UInt8.toNat_ofNat']
     omega
    obtain⟨x,hx⟩:∃x,UInt8.ofNat (48+m % 10)=x:=⟨_,rfl⟩
    simp only[hx]at hc HN
    clear hx
    have hz:m / 10<m:=Nat.div_lt_self hpos aB
    go_wp2_with (fail)
    go_roundw
    case rel=>exact⟨m / 10,f',_,by go_num,rfl,HN.out,bl⟩
    case measure=>simp[intOf];omega
 ·
  obtain rfl:k=0:=by omega
  go_enter Tryz.func118,Tryz.ntmps118
  go_wp2_with (fail)
  all_goals
   go_returns
   exact⟨rfl,bl⟩
end Go.Proofs.YtjngkknbpfgdcaaGreatDoor
