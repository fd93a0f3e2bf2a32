import Derived.Test.YtjngkknbpfgdcaaGreatDoorVvTV
set_option linter.unusedVariables false
set_option linter.unusedSimpArgs false
set_option maxRecDepth 100000
set_option maxHeartbeats 8000000
namespace Go.Proofs.YtjngkknbpfgdcaaGreatDoor
open Go.RowKit
mutual
def Y.Own (w:World):List Nat->Y->Value->Prop
 | L,.int n,v=>L=[]/\v=.int .i64 n/\dT n
 | L,.str s,v=>L=[]/\v=.string s/\s.size<=maxLen
 | L,.bool b,v=>L=[]/\v=.bool b
 | L,.row k xs,v=>∃A c,v=.slice A xs.length c/\xs.length<=c/\c<=maxLen/\((xs=[]/\L=[]/\c=0)\/(∃b o L',A=some ⟨b,o,none⟩/\b<w.heap.size/\(∀i,w.frozen? ⟨b,i,none⟩=false)/\L=b :: L'/\(∀i,i<c*k->∃u,w.cell? ⟨b,o+i,none⟩=some u)/\Y.OwnRows w k b o L' xs))
def Y.OwnRows (w:World) (k b:Nat):Nat->List Nat->List (List Y)->Prop
 | _,L,[]=>L=[]
 | o,L,ds :: r=>∃L1 L2,L=L1++L2/\Y.eH w b o L1 ds/\ds.length=k/\Y.OwnRows w k b (o+k) L2 r
def Y.eH (w:World) (b:Nat):Nat->List Nat->List Y->Prop
 | _,L,[]=>L=[]
 | o,L,d :: r=>∃L1 L2,L=L1++L2/\(∃u,w.cell? ⟨b,o,none⟩=some u/\Y.Own w L1 d u)/\Y.eH w b (o+1) L2 r
end
def Y.dh (w:World):List Nat->List Y->List Value->Prop
 | L,[],[]=>L=[]
 | L,d :: r,v :: vs=>∃L1 L2,L=L1++L2/\Y.Own w L1 d v/\Y.dh w L2 r vs
 | _,_,_=>False
def du (w:World) (L:List Nat) (k:Nat) (A:Option Addr) (c:Nat) (xs:List (List Y)):Prop :=
 xs.length<=c/\c<=maxLen/\((xs=[]/\L=[]/\c=0)\/(∃b o L',A=some ⟨b,o,none⟩/\b<w.heap.size/\(∀i,w.frozen? ⟨b,i,none⟩=false)/\L=b :: L'/\(∀i,i<c*k->∃u,w.cell? ⟨b,o+i,none⟩=some u)/\Y.OwnRows w k b o L' xs))
section
variable {w w':World}
theorem Y.eZ {L:List Nat} {n:Int} {v:Value}:(Y.int n).Own w L v↔L=[]/\v=.int .i64 n/\dT n:=by simp only[Y.Own]
theorem Y.mK {L:List Nat} {s:cx} {v:Value}:(Y.str s).Own w L v↔L=[]/\v=.string s/\s.size<=maxLen:=by simp only[Y.Own]
theorem Y.yo {L:List Nat} {b:Bool} {v:Value}:(Y.bool b).Own w L v↔L=[]/\v=.bool b:=by simp only[Y.Own]
theorem Y.gW {L:List Nat} {k:Nat} {xs:List (List Y)} {v:Value}:(Y.row k xs).Own w L v↔∃A c,v=.slice A xs.length c/\du w L k A c xs:=by simp only[Y.Own,du]
def j4 (w w':World) (b:Nat):Prop:=(∀o,w'.cell? ⟨b,o,none⟩=w.cell? ⟨b,o,none⟩)/\(∀o,w'.frozen? ⟨b,o,none⟩=w.frozen? ⟨b,o,none⟩)
theorem j4.refl (w:World) (b:Nat):j4 w w b:=⟨fun _=>rfl,fun _=>rfl⟩
theorem j4.trans {a b c:World} {i:Nat} (h:j4 a b i) (k:j4 b c i):j4 a c i:=⟨fun o=>(k.1 o).trans (h.1 o),fun o=>(k.2 o).trans (h.2 o)⟩
mutual
theorem Y.Own.keep (hs:w.heap.size<=w'.heap.size):∀(d:Y) (L:List Nat) (v:Value),(∀b,b∈L->j4 w w' b)->d.Own w L v->d.Own w' L v
 | .int n,L,v,_,h=>by simpa only[Y.Own]using h
 | .str s,L,v,_,h=>by simpa only[Y.Own]using h
 | .bool b,L,v,_,h=>by simpa only[Y.Own]using h
 | .row k xs,L,v,hL,h=>by
  simp only[Y.Own]at h |-
  obtain⟨A,c,rfl,hl,hc,hx⟩:=h
  refine⟨A,c,rfl,hl,hc,?_⟩
  rcases hx with hx | ⟨b,o,L',rfl,g1,g2,rfl,gr,hr⟩
  ·
   exact Or.inl hx
  ·
   have hb:=hL b aJ
   exact Or.inr ⟨b,o,L',rfl,by omega,fun i=>(hb.2 i).trans (g2 i),rfl,fun i hi=>(gr i hi).imp fun u hu=>(hb.1 _).trans hu,Y.OwnRows.keep hs b xs o L' (fun i _ _=>hb.1 i) (fun i hi=>hL i b8) hr⟩
theorem Y.OwnRows.keep (hs:w.heap.size<=w'.heap.size) {k:Nat} (b:Nat):∀(xs:List (List Y)) (o:Nat) (L:List Nat),(∀i,o<=i->i<o+xs.length*k->w'.cell? ⟨b,i,none⟩=w.cell? ⟨b,i,none⟩)->(∀b,b∈L->j4 w w' b)->Y.OwnRows w k b o L xs->Y.OwnRows w' k b o L xs
 | [],o,L,_,_,h=>by simpa only[Y.OwnRows]using h
 | ds :: r,o,L,hb,hL,h=>by
  simp only[Y.OwnRows]at h |-
  obtain⟨L1,L2,rfl,h1,h2,h3⟩:=h
  have e:(ds :: r).length*k=r.length*k+k:=by simp[Nat.succ_mul]
  rw[e]at hb
  exact⟨L1,L2,rfl,Y.eH.keep hs b ds o L1 (fun i hi hj=>hb i hi aF) (fun i hi=>hL i b8) h1,h2,Y.OwnRows.keep hs b r (o+k) L2 (fun i hi hj=>hb i aF aF) (fun i hi=>hL i b8) h3⟩
theorem Y.eH.keep (hs:w.heap.size<=w'.heap.size) (b:Nat):∀(ds:List Y) (o:Nat) (L:List Nat),(∀i,o<=i->i<o+ds.length->w'.cell? ⟨b,i,none⟩=w.cell? ⟨b,i,none⟩)->(∀b,b∈L->j4 w w' b)->Y.eH w b o L ds->Y.eH w' b o L ds
 | [],o,L,_,_,h=>by simpa only[Y.eH]using h
 | d :: r,o,L,hb,hL,h=>by
  simp only[Y.eH]at h |-
  obtain⟨L1,L2,rfl,⟨u,hu,hd⟩,hr⟩:=h
  simp only[aD]at hb
  exact⟨L1,L2,rfl,⟨u,(hb o aF aF).trans hu,Y.Own.keep hs d L1 u (fun i hi=>hL i b8) hd⟩,Y.eH.keep hs b r (o+1) L2 (fun i hi hj=>hb i aF aF) (fun i hi=>hL i b8) hr⟩
end
theorem Y.dh.keep (hs:w.heap.size<=w'.heap.size):∀(ds:List Y) (L:List Nat) (vs:List Value),(∀b,b∈L->j4 w w' b)->Y.dh w L ds vs->Y.dh w' L ds vs
 | [],_,[],_,h=>h
 | d :: r,L,v :: vs,hL,h=>by
  obtain⟨L1,L2,rfl,h1,h2⟩:=h
  exact⟨L1,L2,rfl,Y.Own.keep hs d L1 v (fun i hi=>hL i b8) h1,Y.dh.keep hs r L2 vs (fun i hi=>hL i b8) h2⟩
 | [],_,_ :: _,_,h=>h.elim
 | _ :: _,_,[],_,h=>h.elim
theorem du.keep (hs:w.heap.size<=w'.heap.size) {L:List Nat} (hL:∀b,b∈L->j4 w w' b) {k:Nat} {A:Option Addr} {c:Nat} {xs:List (List Y)} (h:du w L k A c xs):du w' L k A c xs:=by
 have:(Y.row k xs).Own w L (.slice A xs.length c):=Y.gW.2 ⟨A,c,rfl,h⟩
 obtain⟨A',c',e,h'⟩:=Y.gW.1 (Y.Own.keep hs _ _ _ hL this)
 cases e
 exact h'
theorem du.nil (w:World) (k:Nat) (A:Option Addr) (c:Nat) (h:c<=maxLen*0):du w [] k A c []:=⟨by simp,aw h (Nat.zero_le _),Or.inl ⟨rfl,rfl,by omega⟩⟩
mutual
theorem Y.Own.lt:∀(d:Y) (L:List Nat) (v:Value),d.Own w L v->∀b,b∈L->b<w.heap.size
 | .int n,L,v,h,b,hb=>by simp only[Y.Own]at h;rw[h.1]at hb;simp at hb
 | .str s,L,v,h,b,hb=>by simp only[Y.Own]at h;rw[h.1]at hb;simp at hb
 | .bool x,L,v,h,b,hb=>by simp only[Y.Own]at h;rw[h.1]at hb;simp at hb
 | .row k xs,L,v,h,b,hb=>by
  simp only[Y.Own]at h
  obtain⟨A,c,rfl,_,_,hx⟩:=h
  rcases hx with⟨_,rfl,_⟩ | ⟨b',o,L',rfl,g1,_,rfl,_,hr⟩
  ·
   simp at hb
  ·
   rcases List.mem_cons.1 hb with rfl | hb
   ·
    exact g1
   ·
    exact Y.OwnRows.lt xs o L' hr b hb
theorem Y.OwnRows.lt {k g:Nat}:∀(xs:List (List Y)) (o:Nat) (L:List Nat),Y.OwnRows w k g o L xs->∀b,b∈L->b<w.heap.size
 | [],o,L,h,b,hb=>by simp only[Y.OwnRows]at h;rw[h]at hb;simp at hb
 | ds :: r,o,L,h,b,hb=>by
  simp only[Y.OwnRows]at h
  obtain⟨L1,L2,rfl,h1,h2,h3⟩:=h
  rcases List.mem_append.1 hb with hb | hb
  ·
   exact Y.eH.lt ds o L1 h1 b hb
  ·
   exact Y.OwnRows.lt r _ L2 h3 b hb
theorem Y.eH.lt {g:Nat}:∀(ds:List Y) (o:Nat) (L:List Nat),Y.eH w g o L ds->∀b,b∈L->b<w.heap.size
 | [],o,L,h,b,hb=>by simp only[Y.eH]at h;rw[h]at hb;simp at hb
 | d :: r,o,L,h,b,hb=>by
  simp only[Y.eH]at h
  obtain⟨L1,L2,rfl,⟨u,hu,hd⟩,hr⟩:=h
  rcases List.mem_append.1 hb with hb | hb
  ·
   exact Y.Own.lt d L1 u hd b hb
  ·
   exact Y.eH.lt r _ L2 hr b hb
end
theorem du.lt {L:List Nat} {k:Nat} {A:Option Addr} {c:Nat} {xs:List (List Y)} (h:du w L k A c xs):∀b,b∈L->b<w.heap.size :=
 Y.Own.lt (.row k xs) L (.slice A xs.length c) (Y.gW.2 ⟨A,c,rfl,h⟩)
theorem Y.dh.lt:∀(ds:List Y) (L:List Nat) (vs:List Value),Y.dh w L ds vs->∀b,b∈L->b<w.heap.size
 | [],L,[],h,b,hb=>by have:L=[]:=h;rw[this]at hb;simp at hb
 | d :: r,L,v :: vs,h,b,hb=>by
  obtain⟨L1,L2,rfl,h1,h2⟩:=h
  rcases List.mem_append.1 hb with hb | hb
  ·
   exact Y.Own.lt d L1 v h1 b hb
  ·
   exact Y.dh.lt r L2 vs h2 b hb
 | [],_,_ :: _,h,_,_=>h.elim
 | _ :: _,_,[],h,_,_=>h.elim
theorem U.same (hb:U w w') {b:Nat} (h:b<w.heap.size):j4 w w' b:=⟨hb.box b h,hb.IL b h⟩
theorem du.de (hb:U w w') {L:List Nat} {k:Nat} {A:Option Addr} {c:Nat} {xs:List (List Y)} (h:du w L k A c xs):du w' L k A c xs:=du.keep hb.size (fun b hm=>hb.same (h.lt b hm)) h
theorem Y.dh.de (hb:U w w') {L:List Nat} {ds:List Y} {vs:List Value} (h:Y.dh w L ds vs):Y.dh w' L ds vs:=Y.dh.keep hb.size _ _ _ (fun b hm=>hb.same (h.lt _ _ _ b hm)) h
mutual
theorem Y.Own.holds {S:Nat->Prop}:∀(d:Y) (L:List Nat) (v:Value),(∀b,b∈L->S b)->d.Own w L v->d.Holds w S v
 | .int n,L,v,_,h=>by simp only[Y.Own]at h;simp only[Y.Holds];exact h.2
 | .str s,L,v,_,h=>by simp only[Y.Own]at h;simp only[Y.Holds];exact h.2
 | .bool b,L,v,_,h=>by simp only[Y.Own]at h;simp only[Y.Holds];exact h.2
 | .row k xs,L,v,hL,h=>by
  simp only[Y.Own]at h
  simp only[Y.Holds]
  obtain⟨A,c,rfl,hl,hc,hx⟩:=h
  refine⟨A,c,rfl,hl,hc,fun iP=>?_⟩
  rcases hx with⟨h0,_⟩ | ⟨b,o,L',rfl,g1,_,rfl,_,hr⟩
  ·
   exact absurd h0 iP
  ·
   exact⟨b,o,rfl,hL b aJ,g1,Y.OwnRows.holds xs o L' (fun i hi=>hL i b8) hr⟩
theorem Y.OwnRows.holds {S:Nat->Prop} {k b:Nat}:∀(xs:List (List Y)) (o:Nat) (L:List Nat),(∀b,b∈L->S b)->Y.OwnRows w k b o L xs->Y.fz w S k b o xs
 | [],o,L,_,h=>by simp only[Y.fz]
 | ds :: r,o,L,hL,h=>by
  simp only[Y.OwnRows]at h
  simp only[Y.fz]
  obtain⟨L1,L2,rfl,h1,h2,h3⟩:=h
  exact⟨Y.eH.holds ds o L1 (fun i hi=>hL i b8) h1,h2,Y.OwnRows.holds r _ L2 (fun i hi=>hL i b8) h3⟩
theorem Y.eH.holds {S:Nat->Prop} {b:Nat}:∀(ds:List Y) (o:Nat) (L:List Nat),(∀b,b∈L->S b)->Y.eH w b o L ds->Y.fL w S b o ds
 | [],o,L,_,h=>by simp only[Y.fL]
 | d :: r,o,L,hL,h=>by
  simp only[Y.eH]at h
  simp only[Y.fL]
  obtain⟨L1,L2,rfl,⟨u,hu,hd⟩,hr⟩:=h
  exact⟨⟨u,hu,Y.Own.holds d L1 u (fun i hi=>hL i b8) hd⟩,Y.eH.holds r _ L2 (fun i hi=>hL i b8) hr⟩
end
theorem du.row {S:Nat->Prop} {L:List Nat} (hL:∀b,b∈L->S b) {k:Nat} {A:Option Addr} {c:Nat} {xs:List (List Y)} (h:du w L k A c xs):Row w S k A c xs:=by
 obtain⟨A',c',e,h'⟩:=Y.fB.1 (Y.Own.holds (.row k xs) L (.slice A xs.length c) hL (Y.gW.2 ⟨A,c,rfl,h⟩))
 cases e
 exact h'
theorem Y.dh.gK {S:Nat->Prop}:∀{ds:List Y} {L:List Nat} {vs:List Value},(∀b,b∈L->S b)->Y.dh w L ds vs->Y.cA w S ds vs
 | [],_,[],_,_=>trivial
 | d :: r,L,v :: vs,hL,h=>by
  obtain⟨L1,L2,rfl,h1,h2⟩:=h
  exact⟨Y.Own.holds d L1 v (fun i hi=>hL i b8) h1,Y.dh.gK (fun i hi=>hL i b8) h2⟩
 | [],_,_ :: _,_,h=>h.elim
 | _ :: _,_,[],_,h=>h.elim
theorem Y.eH.oY {b:Nat}:∀{ds:List Y} {L:List Nat} {vs:List Value} {o:Nat},Y.dh w L ds vs->(∀j,j<vs.length->w.cell? ⟨b,o+j,none⟩=vs[j]?)->Y.eH w b o L ds
 | [],_,[],_,h,_=>by simp only[Y.eH];exact h
 | [],_,_ :: _,_,h,_=>h.elim
 | _ :: _,_,[],_,h,_=>h.elim
 | d :: r,L,v :: vs,o,h,hc=>by
  simp only[Y.eH]
  obtain⟨L1,L2,rfl,h1,h2⟩:=h
  refine⟨L1,L2,rfl,⟨v,by simpa using hc 0 aJ,h1⟩,Y.eH.oY h2 fun j hj=>?_⟩
  have:=hc (j+1) bA
  rw[show o+(j+1)=o+1+j from by omega]at this
  simpa using this
theorem Y.eH.ux {b:Nat}:∀{ds:List Y} {L:List Nat} {o:Nat},Y.eH w b o L ds->∃vs:List Value,Y.dh w L ds vs/\vs.length=ds.length/\∀j,j<vs.length->w.cell? ⟨b,o+j,none⟩=vs[j]?
 | [],L,_,h=>by simp only[Y.eH]at h;exact⟨[],h,rfl,fun _ h=>absurd h aJ⟩
 | d :: r,L,o,h=>by
  simp only[Y.eH]at h
  obtain⟨L1,L2,rfl,⟨u,hu,hd⟩,hr⟩:=h
  obtain⟨vs,h1,h2,h3⟩:=Y.eH.ux hr
  refine⟨u :: vs,⟨L1,L2,rfl,hd,h1⟩,by simp[h2],fun j hj=>?_⟩
  cases j with
  | zero=>simpa using hu
  | succ j =>
   have:=h3 j bA
   rw[show o+1+j=o+(j+1)from by omega]at this
   simpa using this
theorem Y.dh.length:∀{ds:List Y} {L:List Nat} {vs:List Value},Y.dh w L ds vs->vs.length=ds.length
 | [],_,[],_=>rfl
 | d :: r,_,v :: vs,h=>by
  obtain⟨_,_,_,_,h2⟩:=h
  simpa using Y.dh.length h2
 | [],_,_ :: _,h=>h.elim
 | _ :: _,_,[],h=>h.elim
theorem Y.OwnRows.at {k b:Nat}:∀{xs:List (List Y)} {o:Nat} {L:List Nat} (i:Nat) (_:Y.OwnRows w k b o L xs) (hi:i<xs.length),∃L1 Le L2,L=L1++(Le++L2)/\Y.eH w b (o+i*k) Le xs[i]/\xs[i].length=k /\
  ∀(w':World) (ds:List Y) (Ln:List Nat),ds.length=k->w.heap.size<=w'.heap.size->(∀c,c∈L1\/c∈L2->j4 w w' c)->(∀j,j<o+i*k\/o+i*k+k<=j->w'.cell? ⟨b,j,none⟩=w.cell? ⟨b,j,none⟩)->Y.eH w' b (o+i*k) Ln ds->Y.OwnRows w' k b o (L1++(Ln++L2)) (xs.set i ds)
 | [],_,_,_,_,h=>absurd h aJ
 | x :: r,o,L,0,h,_=>by
  simp only[Y.OwnRows]at h
  obtain⟨L1,L2,rfl,h1,h2,h3⟩:=h
  refine⟨[],L1,L2,rfl,by simpa using h1,by simpa using h2,fun w' ds Ln hd hs hL hb hc=>?_⟩
  simp only[Nat.zero_mul,Nat.add_zero]at hb hc
  simp only[ab,Y.OwnRows]
  exact⟨Ln,L2,rfl,hc,hd,Y.OwnRows.keep hs b r (o+k) L2 (fun i hi _=>hb i (Or.inr hi)) (fun i hi=>hL i (Or.inr hi)) h3⟩
 | x :: r,o,L,i+1,h,hi=>by
  simp only[Y.OwnRows]at h
  obtain⟨L1,L2,rfl,h1,h2,h3⟩:=h
  obtain⟨M1,Me,M2,rfl,g1,g2,g3⟩:=Y.OwnRows.at i h3 bD
  have e:o+(i+1)*k=o+k+i*k:=by rw[Nat.add_mul];omega
  refine⟨L1++M1,Me,M2,by simp,by rw[e];simpa using g1,by simpa using g2,fun w' ds Ln hd hs hL hb hc=>?_⟩
  rw[e]at hb hc
  simp only[ae,Y.OwnRows]
  refine⟨L1,M1++(Ln++M2),by simp,Y.eH.keep hs b x o L1 (fun j _ hj=>hb j (Or.inl (by rw[h2]at hj;omega))) (fun c hc=>hL c (Or.inl bV)) h1,h2,g3 w' ds Ln hd hs (fun c hc=>hL c (hc.elim (fun q=>Or.inl (by simp[q])) Or.inr)) hb hc⟩
theorem du.at2 {k:Nat} {A:Option Addr} {c:Nat} {xs:List (List Y)} {L:List Nat} (h:du w L k A c xs) (i:Nat) (hi:i<xs.length) :
  ∃b o L1 Le L2 vs,A=some ⟨b,o,none⟩/\b<w.heap.size/\(∀i,w.frozen? ⟨b,i,none⟩=false)/\L=b :: (L1++(Le++L2))/\Y.dh w Le xs[i] vs/\vs.length=k/\(∀j,j<k->w.cell? ⟨b,o+i*k+j,none⟩=vs[j]?) /\
   ∀(w':World) (ds:List Y) (vs':List Value) (Ln:List Nat),Y.dh w' Ln ds vs'->vs'.length=k->w.heap.size<=w'.heap.size->(∀c,c∈L1\/c∈L2->j4 w w' c)->(∀i,w'.frozen? ⟨b,i,none⟩=false)->(∀j,j<o+i*k\/o+i*k+k<=j->w'.cell? ⟨b,j,none⟩=w.cell? ⟨b,j,none⟩)->(∀j,j<k->w'.cell? ⟨b,o+i*k+j,none⟩=vs'[j]?)->du w' (b :: (L1++(Ln++L2))) k A c (xs.set i ds):=by
 obtain⟨h1,h2,h3⟩:=h
 rcases h3 with⟨rfl,_⟩ | ⟨b,o,L',rfl,g1,g2,rfl,gr,hr⟩
 ·
  simp at hi
 ·
  obtain⟨L1,Le,L2,rfl,k1,k2,k3⟩:=Y.OwnRows.at i hr hi
  obtain⟨vs,v1,v2,v3⟩:=k1.ux
  refine⟨b,o,L1,Le,L2,vs,rfl,g1,g2,rfl,v1,by omega,fun j hj=>v3 j aF,?_⟩
  intro w' ds vs' Ln q1 q2 hs hL hf hb hc
  refine⟨by simpa using h1,h2,Or.inr ⟨b,o,_,rfl,by omega,hf,rfl,fun j hj=>?_,k3 w' ds Ln (by rw[<-q1.length];exact q2) hs hL hb (Y.eH.oY q1 fun j hj=>hc j aF)⟩⟩
  rcases Nat.lt_or_ge j (i*k)with hl | hl
  ·
   rw[hb (o+j) (Or.inl aF)]
   exact gr j hj
  ·
   rcases Nat.lt_or_ge j (i*k+k)with mu | mu
   ·
    have vx:=hc (j - i*k) aF
    rw[show o+i*k+(j - i*k)=o+j by omega]at vx
    exact⟨vs'[j - i*k]' aF,vx.trans (List.getElem?_eq_getElem aF)⟩
   ·
    rw[hb (o+j) (Or.inr aF)]
    exact gr j hj
theorem du.at {k:Nat} {A:Option Addr} {c:Nat} {xs:List (List Y)} {L:List Nat} (h:du w L k A c xs) (i:Nat) (hi:i<xs.length) :
  ∃b o L1 Le L2 vs,A=some ⟨b,o,none⟩/\b<w.heap.size/\(∀i,w.frozen? ⟨b,i,none⟩=false)/\L=b :: (L1++(Le++L2))/\Y.dh w Le xs[i] vs/\vs.length=k/\(∀j,j<k->w.cell? ⟨b,o+i*k+j,none⟩=vs[j]?) /\
   ∀(w':World) (ds:List Y) (vs':List Value),Y.dh w' Le ds vs'->vs'.length=k->w.heap.size<=w'.heap.size->(∀c,c∈L1\/c∈L2->j4 w w' c)->(∀i,w'.frozen? ⟨b,i,none⟩=false)->(∀j,j<o+i*k\/o+i*k+k<=j->w'.cell? ⟨b,j,none⟩=w.cell? ⟨b,j,none⟩)->(∀j,j<k->w'.cell? ⟨b,o+i*k+j,none⟩=vs'[j]?)->du w' L k A c (xs.set i ds):=by
 obtain⟨b,o,L1,Le,L2,vs,e1,e2,e3,e4,e5,e6,e7,e8⟩:=h.at2 i hi
 exact⟨b,o,L1,Le,L2,vs,e1,e2,e3,e4,e5,e6,e7,fun w' ds vs' q1 q2 hs hL hf hb hc=>by rw[e4];exact e8 w' ds vs' Le q1 q2 hs hL hf hb hc⟩
end
structure gp (S:Nat->Prop) (w w':World):Prop where
 os:w'.os=w.os
 tape:w'.tape=w.tape
 output:w'.output=w.output
 size:w.heap.size<=w'.heap.size
 block:∀b,S b->b<w.heap.size->w'.heap[b]?=w.heap[b]?
namespace gp
variable {S:Nat->Prop} {a b c:World}
theorem same {w w':World} (h:gp S w w') (i:Nat) (hi:S i) (hl:i<w.heap.size):j4 w w' i:=⟨fun o=>World.cell?_of_block (w:=w) (a:=⟨i,o,none⟩) (h.block i hi hl),fun o=>World.frozen?_of_block (w:=w) (a:=⟨i,o,none⟩) (h.block i hi hl)⟩
theorem refl (S:Nat->Prop) (w:World):gp S w w:=⟨rfl,rfl,rfl,Nat.le_refl _,fun b _ _=>rfl⟩
theorem trans (h:gp S a b) (k:gp S b c):gp S a c:=⟨k.os.trans h.os,k.tape.trans h.tape,k.output.trans h.output,aw h.size k.size,fun i hS hi=>(k.block i hS (au hi h.size)).trans (h.block i hS hi)⟩
theorem dH (S:Nat->Prop) (h:U a b):gp S a b:=⟨Below.os h,Below.tape h,Below.output h,U.size h,fun i _ hi=>Below.block h i hi⟩
theorem de (h:gp S a b) (k:U b c):gp S a c:=h.trans (dH S k)
theorem alloc (h:gp S a b) (o:Obj):gp S a (b.alloc o):=h.de (U.alloc (U.refl _) o)
theorem drew (h:gp S a b):gp S a b.drew:=h.de (U.drew (U.refl _))
theorem drewN (h:gp S a b) (n:Nat):gp S a (b.drewN n):=h.de (U.drewN (U.refl _) n)
theorem narrow {S':Nat->Prop} (h:gp S a b) (hm:∀x,S' x->S x):gp S' a b:=⟨h.os,h.tape,h.output,h.size,fun i hi hl=>h.block i (hm i hi) hl⟩
theorem set (h:gp S a b) {p:Addr} (hp:¬S p.block) (v:Value):gp S a (b.setCell p v) :=
 h.trans ⟨rfl,rfl,rfl,by simp,fun i hS _=>Below.heap_setCell _ _ _ _ (fun e=>hp (by rw[<-e];exact hS))⟩
theorem DX {w:World} (h:gp S a b) (h0:U w a) (hS:∀x,x<w.heap.size->S x):U w b:=Below.trans h0 ⟨h.os,h.tape,h.output,h.size,fun i hi=>h.block i (hS i hi) (au hi (U.size h0))⟩
end gp
theorem du.sC {w w':World} {S:Nat->Prop} (h:gp S w w') {L:List Nat} (hd:∀x,x∈L->S x) {k:Nat} {A:Option Addr} {c:Nat} {xs:List (List Y)} (hh:du w L k A c xs):du w' L k A c xs :=
 du.keep h.size (fun b hb=>h.same b (hd b hb) (hh.lt b hb)) hh
theorem Y.dh.sC {w w':World} {S:Nat->Prop} (h:gp S w w') {L:List Nat} (hd:∀x,x∈L->S x) {ds:List Y} {vs:List Value} (hh:Y.dh w L ds vs):Y.dh w' L ds vs :=
 Y.dh.keep h.size _ _ _ (fun b hb=>h.same b (hd b hb) (hh.lt _ _ _ b hb)) hh
theorem Row.sC {w w':World} {S0:Nat->Prop} (h:gp S0 w w') {S:Nat->Prop} (hd:∀x,S x->S0 x) {k:Nat} {A:Option Addr} {c:Nat} {xs:List (List Y)} (hh:Row w S k A c xs):Row w' S k A c xs :=
 Row.keep h.size (fun b o hb hl=>(h.same b (hd b hb) hl).1 o) (fun _ h=>h) hh
theorem Y.cA.sC {w w':World} {S0:Nat->Prop} (h:gp S0 w w') {S:Nat->Prop} (hd:∀x,S x->S0 x) {ds:List Y} {vs:List Value} (hh:Y.cA w S ds vs):Y.cA w' S ds vs :=
 Y.cA.keep h.size (fun b o hb hl=>(h.same b (hd b hb) hl).1 o) (fun _ h=>h) ds vs hh
theorem ke {L M:List Nat} (h1:L.Nodup) (h2:M.Nodup) (h:∀a,a∈L->a∉M):(L++M).Nodup :=
 List.nodup_append.2 ⟨h1,h2,fun a ha b hb e=>h a ha (e▸hb)⟩
theorem Fv {L M:List Nat} {n:Nat} (h1:L.Nodup) (h2:M.Nodup) (h3:∀a,a∈L->a<n) (h4:∀a,a∈M->n<=a):(L++M).Nodup :=
 ke h1 h2 fun a ha hb=>by have:=h3 a ha;have:=h4 a hb;omega
def nt (w:World) (g:Nat) (E:TypeId) (k n:Nat) (ds:List (List Y)):Prop :=
 ds.length<=n/\(∃cur,w.heap[g]?=some (.cells cur E (0,0))/\cur.size=n*k)/\∃L,Y.OwnRows w k g 0 L ds/\L.Nodup/\∀b,b∈L->g<b
section
variable {w w':World} {g:Nat} {E:TypeId} {k n:Nat} {ds:List (List Y)}
theorem nt.start (w:World) (E:TypeId) (k n:Nat) {cur:Array Value} (h:cur.size=n*k):nt (w.alloc (.cells cur E)) w.heap.size E k n [] :=
 ⟨by simp,⟨cur,heap_alloc_new w _,h⟩,[],by simp only[Y.OwnRows],by simp,by simp⟩
theorem nt.lt (h:nt w g E k n ds):g<w.heap.size:=by
 obtain⟨_,⟨cur,hc,_⟩,_⟩:=h
 rcases Nat.lt_or_ge g w.heap.size with h' | h'
 ·
  exact h'
 ·
  rw[Array.getElem?_eq_none h']at hc;cases hc
theorem nt.de (h:nt w g E k n ds) (hb:U w w'):nt w' g E k n ds:=by
 have hl:=h.lt
 obtain⟨h0,⟨cur,hc,hs⟩,L,h1,h2,h3⟩:=h
 exact⟨h0,⟨cur,(Below.block hb g hl).trans hc,hs⟩,L,Y.OwnRows.keep hb.size g ds 0 L (fun i _ _=>hb.box g hl i) (fun b hm=>hb.same (Y.OwnRows.lt _ _ _ h1 b hm)) h1,h2,h3⟩
theorem nt.cell (h:nt w g E k n ds) {i:Nat} (hi:i<n*k):∃u,w.cell? ⟨g,i,none⟩=some u:=by
 obtain⟨h0,⟨cur,hc,hs⟩,_⟩:=h
 refine⟨cur[i]' aF,?_⟩
 rw[cell_of_row w g i cur E (0,0) hc]
 exact Array.getElem?_eq_getElem aF
theorem nt.free (h:nt w g E k n ds) (i:Nat):w.frozen? ⟨g,i,none⟩=false:=by
 obtain⟨h0,⟨cur,hc,hs⟩,_⟩:=h
 simp[World.frozen?,hc]
theorem Y.OwnRows.snoc {b:Nat}:∀{xs:List (List Y)} {o:Nat} {L M:List Nat} {d:List Y},Y.OwnRows w k b o L xs->Y.eH w b (o+xs.length*k) M d->d.length=k->Y.OwnRows w k b o (L++M) (xs++[d])
 | [],o,L,M,d,h,hd,hk=>by
  simp only[Y.OwnRows]at h
  subst h
  simp only[List.nil_append,Y.OwnRows]
  exact⟨M,[],by simp,by simpa using hd,hk,rfl⟩
 | x :: r,o,L,M,d,h,hd,hk=>by
  simp only[Y.OwnRows]at h
  obtain⟨L1,L2,rfl,h1,h2,h3⟩:=h
  simp only[List.cons_append,Y.OwnRows]
  refine⟨L1,L2++M,by simp,h1,h2,Y.OwnRows.snoc h3 ?_ hk⟩
  have e:o+(x :: r).length*k=o+k+r.length*k:=by simp[Nat.succ_mul];omega
  rw[<-e]
  exact hd
theorem nt.put {W:World} (h:nt W g E k n ds) (hn:ds.length<n) (hb:U W w) {M:List Nat} {d:List Y} {vs:List Value} (hv:Y.dh w M d vs) (DJ:M.Nodup) (hM:∀b,b∈M->W.heap.size<=b) (hk:vs.length=k):nt (w.setCells g (ds.length*k) vs) g E k n (ds++[d]):=by
 have hl:=h.lt
 obtain⟨h0,⟨cur,hc,hs⟩,L,h1,h2,h3⟩:=h
 have hLW:=Y.OwnRows.lt _ _ _ h1
 have hle:ds.length*k+k<=n*k:=by rw[<-Nat.succ_mul];exact Nat.mul_le_mul_right k hn
 have hc':=(Below.block hb g hl).trans hc
 have LW:Y.OwnRows w k g 0 L ds:=Y.OwnRows.keep hb.size g ds 0 L (fun i _ _=>hb.box g hl i) (fun b hm=>hb.same (hLW b hm)) h1
 have hz:(w.setCells g (ds.length*k) vs).heap.size=w.heap.size:=lk vs _ w
 have hg:=qQ vs (ds.length*k) w cur hc'
 have afH:∀b,b≠g->j4 w (w.setCells g (ds.length*k) vs) b:=fun b hb=>by
  have e:=nh hb vs (ds.length*k) w
  exact⟨fun o=>World.cell?_of_block e,fun o=>by simp[World.frozen?,e]⟩
 have Fk:∀i,(w.setCells g (ds.length*k) vs).cell? ⟨g,i,none⟩=(nN cur (ds.length*k) vs)[i]?:=fun i=>cell_of_row _ g i _ E (0,0) hg
 refine⟨by simp;omega,⟨nN cur (ds.length*k) vs,hg,by rw[tD];exact hs⟩,L++M,?_,?_,?_⟩
 ·
  refine Y.OwnRows.snoc (Y.OwnRows.keep aF g ds 0 L (fun i _ hi=>?_) (fun b hm=>afH b (by have:=h3 b hm;omega)) LW) (Y.eH.oY (Y.dh.keep aF _ _ _ (fun b hm=>afH b (by have:=hM b hm;omega)) hv) fun j hj=>?_) (by rw[<-hv.length];exact hk)
  ·
   rw[Fk,sA _ _ _ _ (Or.inl aF),<-cell_of_row w g i cur E (0,0) hc']
  ·
   rw[Fk,Nat.zero_add]
   exact yQ vs _ cur j hj aF
 ·
  exact Fv h2 DJ hLW hM
 ·
  intro b hm
  rcases List.mem_append.1 hm with hm | hm
  ·
   exact h3 b hm
  ·
   have:=hM b hm
   omega
theorem nt.snoc {α:Type} {D:α->List Y} {l:List α} {j:Nat} {W:World} (h:nt W g E k n ((l.map D).take j)) (hj:j<l.length) (hn:l.length=n) (hb:U W w)
  {M:List Nat} {vs:List Value} (hv:Y.dh w M (D l[j]) vs) (DJ:M.Nodup) (hM:∀b,b∈M->W.heap.size<=b) (hk:vs.length=k):nt (w.setCells g (j*k) vs) g E k n ((l.map D).take (j+1)):=by
 have hlen:((l.map D).take j).length=j:=aH
 have:=h.put (by rw[hlen];omega) hb hv DJ hM hk
 rw[hlen]at this
 rw[DE bA,List.getElem_map]
 exact this
theorem nt.done {α:Type} {D:α->List Y} {l:List α} {j:Nat} (h:nt w g E k n ((l.map D).take j)) (hj:l.length<=j) (hn:l.length=n) (hm:n<=maxLen) :
  ∃L,du w L k (some ⟨g,0,none⟩) n (l.map D)/\L.Nodup/\∀b,b∈L->g<=b:=by
 rw[List.take_of_length_le bA]at h
 have hl:=h.lt
 have hf:=h.free
 obtain⟨h0,⟨cur,hc,hs⟩,L,h1,h2,h3⟩:=h
 by_cases e:l=[]
 ·
  subst e
  exact⟨[],⟨by simp,hm,Or.inl ⟨rfl,rfl,by simpa using hn.symm⟩⟩,by simp,by simp⟩
 ·
  refine⟨g :: L,⟨h0,hm,Or.inr ⟨g,0,L,rfl,hl,hf,rfl,fun i hi=>⟨cur[i]' aF,?_⟩,h1⟩⟩,?_,?_⟩
  ·
   rw[Nat.zero_add,cell_of_row w g i cur E (0,0) hc]
   exact Array.getElem?_eq_getElem aF
  ·
   exact List.nodup_cons.2 ⟨fun q=>by have:=h3 g q;omega,h2⟩
  ·
   intro b hb
   rcases List.mem_cons.1 hb with rfl | hb
   ·
    exact Nat.le_refl _
   ·
    exact Nat.le_of_lt (h3 b hb)
end
def Dc:Nat->Nat->cx->cx
 | 0,_,t=>t
 | f+1,n,t=>if n=0 then t else Dc f (n / 10) (⟨#[UInt8.ofNat (48+n % 10)]⟩++t)
def afI (k:Int):cx:=⟨#[109]⟩++(if k<=0 then⟨#[48]⟩ else Dc 64 k.toNat ByteArray.empty)
mutual
def Y.cnt:Y->Nat
 | .int _=>1
 | .str _=>1
 | .bool _=>1
 | .row _ xs=>Y.afJ xs
def Y.afJ:List (List Y)->Nat
 | []=>0
 | ds :: r=>Y.abb ds+Y.afJ r
def Y.abb:List Y->Nat
 | []=>0
 | d :: r=>Y.cnt d+Y.abb r
end
mutual
def Y.mark:Int->Y->Y
 | k,.int _=>.int k
 | k,.str _=>.str (afI k)
 | _,.bool b=>.bool b
 | k,.row n xs=>.row n (Y.X2 k xs)
def Y.X2:Int->List (List Y)->List (List Y)
 | _,[]=>[]
 | k,ds :: r=>Y.X9 k ds :: Y.X2 (k+Y.abb ds) r
def Y.X9:Int->List Y->List Y
 | _,[]=>[]
 | k,d :: r=>Y.mark k d :: Y.X9 (k+Y.cnt d) r
end
theorem aql.mw {w:World} {L:List Nat} {x0:cx} {vs:List Value} (h:Y.dh w L [Y.str x0] vs):L=[]/\vs=[.string x0]/\x0.size<=maxLen:=by
 have hl:=h.length
 match vs,hl,h with
 | [u0],_,h =>
 simp only[Y.dh]at h
 obtain⟨M0,N0,e0,h0,en⟩:=h
 subst en e0
 obtain⟨rfl,rfl,g0⟩:=Y.mK.1 h0
 exact⟨rfl,rfl,g0⟩
end Go.Proofs.YtjngkknbpfgdcaaGreatDoor
namespace Go.Proofs.YtjngkknbpfgdcaaGreatDoor
open Go.RowKit
theorem ta {P:Program} {w:World} (base:Nat) (t ty e:TypeId) (i:TypeInfo) (size:Nat) (ht:P.underlying t=some (.slice e)) (hi:P.info? e=some i) (v:Value) (n:Nat) (xs:List Value) (lu:w.ownsRow base e size v n xs) (A:Option Addr) (c:Nat) :
  (Builtin.append_ #[t,t] ty #[v,.slice A 0 c]).run P w=.ok v w:=by
 rcases lu.2 with⟨rfl,-⟩ | ⟨g,cap,cur,rfl,-,-,hn,-⟩
 all_goals cases A
 all_goals simp[Builtin.append_,run_underlying ht,sizeOf,typeInfo,hi,Builtin.lenOf,Builtin.firstCells,loadCells,loadCellsFrom,storeCells, * ]
theorem Fw {P:Program} {w w':World} (t ty e:TypeId) (i:TypeInfo) (z:Value) (ht:P.underlying t=some (.slice e)) (hi:P.info? e=some i) (hz:i.zero=some z)
  {v v':Value} {n:Nat} {xs:List Value} (lu:w.ownsRow 0 e i.size v n xs) (a:Addr) (m c:Nat) {news:List Value} (hl:news.length=m*i.size) (hnews:∀j u,news[j]?=some u->w.cell? (a.add j)=some u) (h1:∀u∈news,u.oneCell'=true)
  (h63:n+m<=maxLen) (hbytes:(n+m)*i.bytes<=140737488355328) (hr:(Builtin.append_ #[t,t] ty #[v,.slice (some a) m c]).run P w=.ok v' w'):∀k,v'.ownBlock=some k->v.ownBlock=some k\/w.heap.size<=k:=by
 intro k hk
 have Gh:=h63
 unfold maxLen at Gh
 rcases lu.2 with⟨rfl,rfl⟩ | ⟨g,cap,cur,rfl,-,hg,hnc,gX,Uv,aoh⟩
 ·
  rcases Nat.eq_zero_or_pos m with rfl | hm
  ·
   rw[ta 0 t ty e i i.size ht hi _ 0 xs lu]at hr
   injection hr with hv
   subst hv
   cases hk
  ·
   rw[run_append_nil (P:=P) w t ty e i z ht hi hz a m c news hl hnews hm aF (by simp only[Nat.zero_add]at hbytes;omega)]at hr
   injection hr with hv
   subst hv
   injection hk with hk
   exact Or.inr (Nat.le_of_eq hk)
 ·
  rcases Nat.lt_or_ge cap (n+m)with hc | hc
  ·
   rw[run_append_grow (P:=P) w t ty e i z ht hi hz ⟨g,0,none⟩ n cap xs lu.1 (lu.cells (g:=g) rfl) a m c news hl hnews hc aF (growslice_fits hc hbytes)]at hr
   injection hr with hv
   subst hv
   injection hk with hk
   exact Or.inr (Nat.le_of_eq hk)
  ·
   rw[run_append_room (P:=P) w t ty e i ht hi g n cap cur hg a m c news hl hnews h1 hc (by rw[hl,Uv,<-Nat.add_mul];exact Nat.mul_le_mul_right _ hc)]at hr
   injection hr with hv
   subst hv
   exact Or.inl hk
theorem Dd {P:Program} {w:World} {o:Oper} {a:Act} {K:Act->World->Prop} {Q:Exit->Act->World->Prop} (s x:Operand) (t:TypeId) (ho:o.op=.call { callee:=.builtin .append,args:=#[s,x],argTypes:=#[t,t] })
  (e:TypeId) (i:TypeInfo) (z:Value) (size bytes:Nat) (ht:P.underlying t=some (.slice e)) (hi:P.info? e=some i) (hz:i.zero=some z) (hsize:i.size=size) (hby:i.bytes=bytes) (hzs:z.cells.size=size) (zx:0<size)
  (v:Value) (n:Nat) (xs:List Value) (hs:a.eval s=v) (lu:w.ownsRow 0 e size v n xs) (A:Option Addr) (m c:Nat) (news:List Value) (hx:a.eval x=.slice A m c) (hl:news.length=m*size) (hA:A=none->m=0)
  (hnews:∀ad,A=some ad->∀j u,news[j]?=some u->w.cell? (ad.add j)=some u) (h1:∀u∈news,u.oneCell'=true) (h63:n+m<=maxLen) (hbytes:(n+m)*bytes<=140737488355328)
  (h:∀v' w',w'.ownsRow 0 e size v' (n+m) (xs++news)->w.grownBy w' v.ownBlock->(∀k,v'.ownBlock=some k->v.ownBlock=some k\/w.heap.size<=k)->K (a.put o.dst v') w'):o.wp P a w K Q:=by
 cases A with
 | none =>
  obtain rfl:=hA rfl
  obtain rfl:news=[]:=List.eq_nil_of_length_eq_zero (by simpa using hl)
  have sH:=ta (P:=P) 0 t o.type e i size ht hi v n xs lu none c
  unfold Oper.wp
  simp[execOp,ho,resolve,invoke,builtin,hs,hx,sH,Result.andThen]
  exact h v w (by simpa using lu) (World.grownBy.refl _ _) (fun k hk=>Or.inl hk)
 | some ad =>
  subst hsize hby
  obtain⟨v',w',hr,h2,h3,-⟩:=run_append_own (P:=P) w 0 t o.type e i z i.size i.bytes ht hi hz rfl rfl hzs zx v n xs lu ad m c news hl (hnews ad rfl) h1 h63 hbytes (Nat.zero_le _)
  have h5:=Fw t o.type e i z ht hi hz lu ad m c hl (hnews ad rfl) h1 h63 hbytes hr
  unfold Oper.wp
  simp[execOp,ho,resolve,invoke,builtin,hs,hx,hr,Result.andThen]
  exact h v' w' h2 h3 h5
def Y.j3 (w:World) (k:Nat):List Nat->List (List Y)->List Value->Prop
 | L,[],vs=>L=[]/\vs=[]
 | L,d :: r,vs=>∃L1 L2 v1 v2,L=L1++L2/\vs=v1++v2/\v1.length=k/\Y.dh w L1 d v1/\Y.j3 w k L2 r v2
section
variable {w w':World} {k:Nat}
theorem Y.j3.lt:∀{ds:List (List Y)} {L:List Nat} {vs:List Value},Y.j3 w k L ds vs->∀b,b∈L->b<w.heap.size
 | [],L,vs,h,b,hb=>by rw[h.1]at hb;cases hb
 | d :: r,L,vs,⟨L1,L2,v1,v2,hL,hv,hl,h1,h2⟩,b,hb=>by
  subst hL
  rcases List.mem_append.1 hb with hb | hb
  ·
   exact h1.lt _ _ _ b hb
  ·
   exact Y.j3.lt h2 b hb
theorem Y.j3.keep (hs:w.heap.size<=w'.heap.size):∀{ds:List (List Y)} {L:List Nat} {vs:List Value},(∀b,b∈L->j4 w w' b)->Y.j3 w k L ds vs->Y.j3 w' k L ds vs
 | [],L,vs,_,h=>h
 | d :: r,L,vs,hb,⟨L1,L2,v1,v2,hL,hv,hl,h1,h2⟩=>by
  subst hL
  exact⟨L1,L2,v1,v2,rfl,hv,hl,Y.dh.keep hs d L1 v1 (fun b h=>hb b (by simp[h])) h1,Y.j3.keep hs (fun b h=>hb b (by simp[h])) h2⟩
theorem Y.j3.append:∀{ds es:List (List Y)} {L M:List Nat} {vs us:List Value},Y.j3 w k L ds vs->Y.j3 w k M es us->Y.j3 w k (L++M) (ds++es) (vs++us)
 | [],es,L,M,vs,us,h,g=>by rw[h.1,h.2];exact g
 | d :: r,es,L,M,vs,us,⟨L1,L2,v1,v2,hL,hv,hl,h1,h2⟩,g=>by
  subst hL hv
  exact⟨L1,L2++M,v1,v2++us,by simp,by simp,hl,h1,Y.j3.append h2 g⟩
theorem Y.j3.len:∀{ds:List (List Y)} {L:List Nat} {vs:List Value},Y.j3 w k L ds vs->vs.length=ds.length*k
 | [],L,vs,h=>by rw[h.2];simp
 | d :: r,L,vs,⟨L1,L2,v1,v2,hL,hv,hl,h1,h2⟩=>by
  rw[hv,List.length_append,hl,Y.j3.len h2,aD,Nat.succ_mul,Nat.add_comm]
theorem Y.Own.mH {d:Y} {L:List Nat} {v:Value} (h:d.Own w L v):v.oneCell'=true:=by
 cases d with
 | int n=>rw[(Y.eZ.1 h).2.1];rfl
 | str s=>rw[(Y.mK.1 h).2.1];rfl
 | bool b=>rw[(Y.yo.1 h).2];rfl
 | row n xs=>obtain⟨A,c,rfl,_⟩:=Y.gW.1 h;rfl
theorem Y.dh.mH:∀{ds:List Y} {L:List Nat} {vs:List Value},Y.dh w L ds vs->∀u∈vs,u.oneCell'=true
 | [],_,[],_,u,hu=>by cases hu
 | d :: r,_,v :: vs,⟨L1,L2,_,h1,h2⟩,u,hu=>by
  rcases List.mem_cons.1 hu with rfl | hu
  ·
   exact h1.mH
  ·
   exact Y.dh.mH h2 u hu
 | [],_,_ :: _,h,_,_=>h.elim
 | _ :: _,_,[],h,_,_=>h.elim
theorem Y.j3.mH:∀{ds:List (List Y)} {L:List Nat} {vs:List Value},Y.j3 w k L ds vs->∀u∈vs,u.oneCell'=true
 | [],L,vs,h,u,hu=>by rw[h.2]at hu;cases hu
 | d :: r,L,vs,⟨L1,L2,v1,v2,hL,hv,hl,h1,h2⟩,u,hu=>by
  rw[hv]at hu
  rcases List.mem_append.1 hu with hu | hu
  ·
   exact h1.mH u hu
  ·
   exact Y.j3.mH h2 u hu
theorem Y.j3.rows {g:Nat}:∀{ds:List (List Y)} {L:List Nat} {vs:List Value} {o:Nat},Y.j3 w k L ds vs->(∀j,j<vs.length->w.cell? ⟨g,o+j,none⟩=vs[j]?)->Y.OwnRows w k g o L ds
 | [],L,vs,o,h,_=>by simp only[Y.OwnRows];exact h.1
 | d :: r,L,vs,o,⟨L1,L2,v1,v2,hL,hv,hl,h1,h2⟩,hc=>by
  subst hL hv
  simp only[Y.OwnRows]
  refine⟨L1,L2,rfl,Y.eH.oY h1 (fun j hj=>?_),by rw[<-h1.length];exact hl,Y.j3.rows h2 (fun j hj=>?_)⟩
  ·
   rw[hc j (by rw[List.length_append];omega),List.getElem?_append_left hj]
  ·
   rw[show o+k+j=o+(k+j) by omega,hc (k+j) (by rw[List.length_append];omega),List.getElem?_append_right aF,hl,Nat.add_sub_cancel_left]
def iG (v:Value) (L:List Nat) (b:Nat):Prop:=v.ownBlock=some b\/b∈L
def dK (w:World) (E:TypeId) (k:Nat) (v:Value) (L:List Nat) (ds:List (List Y)):Prop :=
 ∃cs,w.ownsRow 0 E k v ds.length cs/\Y.j3 w k L ds cs/\L.Nodup/\∀b,v.ownBlock=some b->b∉L
variable {E:TypeId} {v:Value} {L:List Nat} {ds:List (List Y)}
theorem dK.lt (h:dK w E k v L ds):∀b,iG v L b->b<w.heap.size:=by
 obtain⟨cs,h1,h2,-⟩:=h
 rintro b (hb | hb)
 ·
  exact (h1.lt b hb).2
 ·
  exact h2.lt b hb
theorem dK.keep (h:dK w E k v L ds) (hs:w.heap.size<=w'.heap.size) (hb:∀b,iG v L b->w'.heap[b]?=w.heap[b]?):dK w' E k v L ds:=by
 obtain⟨cs,h1,h2,h3,h4⟩:=h
 refine⟨cs,⟨h1.1,?_⟩,h2.keep hs (fun b hm=>⟨fun o=>World.cell?_of_block (hb b (Or.inr hm)),fun o=>World.frozen?_of_block (hb b (Or.inr hm))⟩),h3,h4⟩
 rcases h1.2 with hn | ⟨g,cap,cur,rfl,hz,hg,r⟩
 ·
  exact Or.inl hn
 ·
  exact Or.inr ⟨g,cap,cur,rfl,hz,(hb g (Or.inl rfl)).trans hg,r⟩
theorem dK.de (h:dK w E k v L ds) (hb:U w w'):dK w' E k v L ds:=h.keep hb.size fun b hm=>Below.block hb b (h.lt b hm)
theorem dK.sC {S:Nat->Prop} (h:dK w E k v L ds) (ho:gp S w w') (hS:∀b,iG v L b->S b):dK w' E k v L ds:=h.keep ho.size fun b hm=>ho.block b (hS b hm) (h.lt b hm)
theorem dK.nil (w:World) (E:TypeId) (k:Nat):dK w E k (.slice none 0 0) [] []:=⟨[],World.ownsRow_nil w 0 E k,⟨rfl,rfl⟩,List.nodup_nil,fun b h=>by cases h⟩
theorem dK.tV (w:World) (E:TypeId) (k:Nat):dK (w.alloc (.cells #[] E)) E k (.slice (some ⟨w.heap.size,0,none⟩) 0 0) [] [] :=
 ⟨[],World.ownsRow_made w #[] 0 (Nat.zero_le _) bE aJ,⟨rfl,rfl⟩,List.nodup_nil,fun b _ h=>by cases h⟩
theorem dK.Pr {M:List Nat} {d:List Y} {vs:List Value} (w:World) (E:TypeId) (hv:Y.dh w M d vs) (hk:vs.length=k) (hn:M.Nodup):dK (w.alloc (.cells vs.toArray E)) E k (.slice (some ⟨w.heap.size,0,none⟩) 1 1) M [d]:=by
 refine⟨vs,⟨by simp[hk],Or.inr ⟨w.heap.size,1,vs.toArray,rfl,Nat.zero_le _,heap_alloc_new w _,by simp,by unfold maxLen;omega,by simp[hk],by simp[<-hk]⟩⟩,⟨M,[],vs,[],by simp,by simp,hk,Y.dh.de bl hv,rfl,rfl⟩,hn,fun b hb hm=>?_⟩
 have:=hv.lt _ _ _ b hm
 simp only[Value.ownBlock,Option.some.injEq]at hb
 omega
theorem dK.ownRow (h:dK w E k v L ds):∃A c L',v=.slice A ds.length c/\du w L' k A c ds/\L'.Nodup/\∀b,b∈L'->iG v L b:=by
 obtain⟨cs,h1,h2,h3,h4⟩:=h
 have hl:=h2.len
 rcases h1.2 with⟨rfl,h0⟩ | ⟨g,cap,cur,rfl,hz,hg,hn,hm,zx,ht⟩
 ·
  obtain rfl:ds=[]:=List.eq_nil_of_length_eq_zero h0
  exact⟨none,0,[],rfl,du.nil w k none 0 bE,List.nodup_nil,fun b hb=>by cases hb⟩
 ·
  refine⟨_,cap,g :: L,rfl,⟨hn,hm,Or.inr ⟨g,0,L,rfl,(Array.getElem?_eq_some_iff.1 hg).1,fun i=>?_,rfl,fun i hi=>⟨cur[i]' aF,?_⟩,h2.rows fun j hj=>?_⟩⟩,List.nodup_cons.2 ⟨h4 g rfl,h3⟩,fun b hb=>?_⟩
  ·
   exact (World.ownsRow.frozenAt h1 i)
  ·
   rw[Nat.zero_add,cell_of_row w g i cur E (0,0) hg]
   exact Array.getElem?_eq_getElem aF
  ·
   rw[Nat.zero_add]
   exact World.ownsRow.cellAt h1 j aF
  ·
   rcases List.mem_cons.1 hb with rfl | hb
   ·
    exact Or.inl rfl
   ·
    exact Or.inr hb
theorem dK.row {S:Nat->Prop} (h:dK w E k v L ds) (hS:∀b,iG v L b->S b):∃A c,v=.slice A ds.length c/\Row w S k A c ds:=by
 obtain⟨A,c,L',h1,h2,-,h4⟩:=h.ownRow
 exact⟨A,c,h1,du.row (fun b hb=>hS b (h4 b hb)) h2⟩
def Src (w:World) (k:Nat) (A:Option Addr) (m:Nat) (M:List Nat) (es:List (List Y)) (news:List Value):Prop :=
 m=es.length/\(A=none->m=0)/\Y.j3 w k M es news/\M.Nodup/\∀ad,A=some ad->∀j u,news[j]?=some u->w.cell? (ad.add j)=some u
theorem dK.src {A:Option Addr} {m c:Nat} (h:dK w E k (.slice A m c) L ds):∃news,Src w k A m L ds news:=by
 obtain⟨cs,h1,h2,h3,h4⟩:=h
 refine⟨cs,?_,?_,h2,h3,?_⟩
 all_goals rcases h1.2 with⟨hv,h0⟩ | ⟨g,cap,cur,hv,hz,hg,hn,hm,zx,ht⟩
 all_goals (simp only[Value.slice.injEq]at hv;obtain⟨rfl,rfl,rfl⟩:=hv)
 ·
  omega
 ·
  rfl
 ·
  intro _;rfl
 ·
  intro hA;cases hA
 ·
  intro ad hA;cases hA
 ·
  intro ad hA
  obtain rfl:=Option.some.inj hA
  exact h1.cells (g:=g) rfl
def Y.flat:Y->Prop
 | .row _ _=>False
 | _=>True
theorem Y.cA.flat {S:Nat->Prop}:∀{ds:List Y} {vs:List Value},(∀d∈ds,d.flat)->Y.cA w S ds vs->Y.dh w [] ds vs
 | [],[],_,_=>rfl
 | d :: r,v :: vs,hf,h=>by
  refine⟨[],[],rfl,?_,Y.cA.flat (fun d hd=>hf d (by simp[hd])) h.2⟩
  have hd:=hf d aJ
  have h1:=h.1
  cases d with
  | int n=>exact Y.eZ.2 ⟨rfl,Y.db.1 h1⟩
  | str s=>exact Y.mK.2 ⟨rfl,Y.kc.1 h1⟩
  | bool b=>exact Y.yo.2 ⟨rfl,Y.wW.1 h1⟩
  | row n xs=>exact hd.elim
 | [],_ :: _,_,h=>h.elim
 | _ :: _,[],_,h=>h.elim
theorem Y.fz.flat {S:Nat->Prop} {b:Nat}:∀{xs:List (List Y)} {o:Nat},(∀ds∈xs,∀d∈ds,d.flat)->Y.fz w S k b o xs->∃news,Y.j3 w k [] xs news/\∀j,j<news.length->w.cell? ⟨b,o+j,none⟩=news[j]?
 | [],o,_,_=>⟨[],⟨rfl,rfl⟩,fun j hj=>by cases hj⟩
 | ds :: r,o,hf,h=>by
  simp only[Y.fz]at h
  obtain⟨h1,h2,h3⟩:=h
  obtain⟨vs,g1,g2,g3⟩:=h1.ux
  obtain⟨us,e1,e2⟩:=Y.fz.flat (fun d hd=>hf d (by simp[hd])) h3
  refine⟨vs++us,⟨[],[],vs,us,rfl,rfl,by omega,Y.cA.flat (hf ds aJ) g1,e1⟩,fun j hj=>?_⟩
  rcases Nat.lt_or_ge j vs.length with hl | hl
  ·
   rw[g3 j hl,List.getElem?_append_left hl]
  ·
   rw[List.getElem?_append_right hl,<-e2 (j - vs.length) (by rw[List.length_append]at hj;omega)]
   congr 2
   omega
theorem Row.src {S:Nat->Prop} {A:Option Addr} {c:Nat} {xs:List (List Y)} (hf:∀ds∈xs,∀d∈ds,d.flat) (h:Row w S k A c xs):∃news,Src w k A xs.length [] xs news:=by
 by_cases he:xs=[]
 ·
  subst he
  exact⟨[],rfl,fun _=>rfl,⟨rfl,rfl⟩,List.nodup_nil,fun ad _ j u hu=>by simp at hu⟩
 ·
  obtain⟨b,o,rfl,-,-,hr⟩:=h.2.2 he
  obtain⟨news,h1,h2⟩:=hr.flat hf
  refine⟨news,rfl,fun hA=>(by cases hA),h1,List.nodup_nil,fun ad hA j u hu=>?_⟩
  obtain rfl:=Option.some.inj hA
  have hj:j<news.length:=(List.getElem?_eq_some_iff.1 hu).1
  rw[addr_add,h2 j hj]
  exact hu
theorem Src.de {A:Option Addr} {m:Nat} {M:List Nat} {es:List (List Y)} {news:List Value} (h:Src w k A m M es news) (hb:U w w'):Src w' k A m M es news:=by
 obtain⟨h1,h2,h3,h4,h5⟩:=h
 exact⟨h1,h2,h3.keep hb.size (fun b hm=>hb.same (h3.lt b hm)),h4,fun ad hA j u hu=>(Below.cell hb (Pf (h5 ad hA j u hu)).2).trans (h5 ad hA j u hu)⟩
end
theorem jq {P:Program} {w:World} {o:Oper} {a:Act} {K:Act->World->Prop} {Q:Exit->Act->World->Prop} (s x:Operand) (t:TypeId) (ho:o.op=.call { callee:=.builtin .append,args:=#[s,x],argTypes:=#[t,t] })
  (E:TypeId) (i:TypeInfo) (z:Value) (k bytes:Nat) (ht:P.underlying t=some (.slice E)) (hi:P.info? E=some i) (hz:i.zero=some z) (hsize:i.size=k) (hby:i.bytes=bytes) (hzs:z.cells.size=k) (zx:0<k)
  {v:Value} {L:List Nat} {ds:List (List Y)} (hD:dK w E k v L ds) {A:Option Addr} {m:Nat} {M:List Nat} {es:List (List Y)} {news:List Value} (hS:Src w k A m M es news) (c:Nat) (hs:a.eval s=v) (hx:a.eval x=.slice A m c)
  (hLM:∀b,iG v L b->b∉M) (hlen:(ds.length+m)*bytes<=140737488355328) (hmax:ds.length+m<=maxLen)
  (h:∀v' w',dK w' E k v' (L++M) (ds++es)->w.grownBy w' v.ownBlock->(∀b,v'.ownBlock=some b->v.ownBlock=some b\/w.heap.size<=b)->K (a.put o.dst v') w'):o.wp P a w K Q:=by
 obtain⟨cs,h1,h2,h3,h4⟩:=hD
 obtain⟨rfl,g2,g3,g4,g5⟩:=hS
 refine Dd s x t ho E i z k bytes ht hi hz hsize hby hzs zx v ds.length cs hs h1 A es.length c news hx g3.len g2 g5 g3.mH hmax hlen fun v' w' q1 q2 q3=>h v' w' ⟨cs++news,by rw[List.length_append];exact q1,?_,ke h3 g4 (fun b hb=>hLM b (Or.inr hb)),fun b hb hm=>?_⟩ q2 q3
 ·
  have same:∀b,b<w.heap.size->v.ownBlock≠some b->j4 w w' b:=fun b hb iP=>by
   have e:=q2.block b hb (fun q=>iP q.symm)
   exact⟨fun o=>World.cell?_of_block e,fun o=>World.frozen?_of_block e⟩
  exact Y.j3.append (h2.keep q2.size fun b hb=>same b (h2.lt b hb) (fun q=>h4 b q hb)) (g3.keep q2.size fun b hb=>same b (g3.lt b hb) (fun q=>hLM b (Or.inl q) hb))
 ·
  rcases q3 b hb with q | q
  ·
   rcases List.mem_append.1 hm with hm | hm
   ·
    exact h4 b q hm
   ·
    exact hLM b (Or.inl q) hm
  ·
   have:b<w.heap.size:=by
    rcases List.mem_append.1 hm with hm | hm
    ·
     exact h2.lt b hm
    ·
     exact g3.lt b hm
   omega
theorem fg {P:Program} {w:World} {ops:Array Oper} {rest:List Oper} {o:Oper} {a:Act} {Q:Exit->Act->World->Prop} (hg:o.guard=none) (s x:Operand) (t:TypeId) (ho:o.op=.call { callee:=.builtin .append,args:=#[s,x],argTypes:=#[t,t] })
  (E:TypeId) (i:TypeInfo) (z:Value) (k bytes:Nat) (ht:P.underlying t=some (.slice E)) (hi:P.info? E=some i) (hz:i.zero=some z) (hsize:i.size=k) (hby:i.bytes=bytes) (hzs:z.cells.size=k) (zx:0<k)
  {v:Value} {L:List Nat} {ds:List (List Y)} (hD:dK w E k v L ds) {A:Option Addr} {m:Nat} {M:List Nat} {es:List (List Y)} {news:List Value} (hS:Src w k A m M es news) (c:Nat) (hs:a.eval s=v) (hx:a.eval x=.slice A m c)
  (hLM:∀b,iG v L b->b∉M) (hlen:(ds.length+m)*bytes<=140737488355328) (hmax:ds.length+m<=maxLen)
  (h:∀v' w',dK w' E k v' (L++M) (ds++es)->w.grownBy w' v.ownBlock->(∀b,v'.ownBlock=some b->v.ownBlock=some b\/w.heap.size<=b)->wpList P ops Q rest (a.put o.dst v') w'):wpList P ops Q (o :: rest) a w :=
 wpList_plain hg fun K hK=>jq s x t ho E i z k bytes ht hi hz hsize hby hzs zx hD hS c hs hx hLM hlen hmax fun v' w' h1 h2 h3=>hK _ _ (h v' w' h1 h2 h3)
theorem xH {w w':World} {r:Option Nat} (h:w.grownBy w' r):gp (fun b=>r≠some b) w w' :=
 ⟨h.os,h.tape,h.output,h.size,fun b hb hl=>h.block b hl (fun q=>hb q.symm)⟩
theorem gp.via {S S':Nat->Prop} {a b c:World} (h:gp S a b) (k:gp S' b c) (hS:∀x,S x->x<a.heap.size->S' x):gp S a c :=
 ⟨k.os.trans h.os,k.tape.trans h.tape,k.output.trans h.output,aw h.size k.size,fun i hi hl=>(k.block i (hS i hi hl) (au hl h.size)).trans (h.block i hi hl)⟩
theorem Mo (f:Nat) (t:cx):Dc f 0 t=t:=by cases f <;> simp[Dc]
theorem Qs (f m:Nat) (t:cx) (h:m≠0):Dc (f+1) m t=Dc f (m / 10) (⟨#[UInt8.ofNat (48+m % 10)]⟩++t):=by rw[Dc,if_neg h]
def xM (K m f:Nat) (t:cx):Prop:=Dc f m t=Dc 64 K ByteArray.empty/\m<10 ^ f/\t.size+f<=64/\m<9223372036854775808
theorem xM.start {K:Nat} (h:K<9223372036854775808):xM K K 64 ByteArray.empty:=⟨rfl,au h aI,by decide,h⟩
theorem xM.next {K m f:Nat} {t:cx} (h:xM K m f t) (hm:m≠0):∃f',xM K (m / 10) f' (⟨#[UInt8.ofNat (48+m % 10)]⟩++t):=by
 obtain⟨h1,h2,h3,h4⟩:=h
 cases f with
 | zero=>simp at h2;omega
 | succ f =>
  refine⟨f,by rw[<-Qs f m t hm];exact h1,?_,?_,by omega⟩
  ·
   rw[Nat.pow_succ]at h2
   exact Nat.div_lt_of_lt_mul (by rw[Nat.mul_comm];exact h2)
  ·
   have e:((⟨#[UInt8.ofNat (48+m % 10)]⟩:cx)++t).size=1+t.size:=by rw[ByteArray.size_append];rfl
   omega
theorem xM.done {K f:Nat} {t:cx} (h:xM K 0 f t):Dc 64 K ByteArray.empty=t:=by rw[<-h.1,Mo]
theorem cw.mw {w:World} {L:List Nat} {x0:cx} {x1:List cx} {x2:Int} {vs:List Value} (h:Y.dh w L (cw.mk x0 x1 x2).D vs):∃A1 c1 L1,L=L1/\vs=[.string x0,.slice A1 x1.length c1,.int .i64 x2]/\x0.size<=maxLen/\du w L1 1 A1 c1 (x1.map (fun x=>[Y.str x]))/\dT x2:=by
 rw[cw.iM]at h
 have hl:=h.length
 match vs,hl,h with
 | [u0,u1,u2],_,h =>
 simp only[Y.dh]at h
 obtain⟨M0,N0,e0,h0,M1,N1,e1,h1,M2,N2,e2,h2,en⟩:=h
 subst en
 subst e2
 subst e1
 subst e0
 obtain⟨rfl,rfl,g0⟩:=Y.mK.1 h0
 obtain⟨A1,c1,rfl,g1⟩:=Y.gW.1 h1
 obtain⟨rfl,rfl,g2⟩:=Y.eZ.1 h2
 exact⟨A1,c1,M1,by simp only[List.nil_append,List.append_nil],by simp only[ar],g0,g1,g2⟩
theorem cw.kL {w:World} {x0:cx} {x1:List cx} {x2:Int} {A1:Option Addr} {c1:Nat} {L1:List Nat} (h0:x0.size<=maxLen) (h1:du w L1 1 A1 c1 (x1.map (fun x=>[Y.str x]))) (h2:dT x2):Y.dh w (L1) (cw.mk x0 x1 x2).D [.string x0,.slice A1 x1.length c1,.int .i64 x2]:=by
 rw[cw.iM]
 exact⟨[],_,(List.nil_append _).symm,Y.mK.2 ⟨rfl,rfl,h0⟩,⟨L1,_,(List.append_nil _).symm,Y.gW.2 ⟨_,_,by simp only[ar],h1⟩,⟨[],_,(List.nil_append _).symm,Y.eZ.2 ⟨rfl,rfl,h2⟩,rfl⟩⟩⟩
theorem R.mw {w:World} {L:List Nat} {x0:Int} {x1:Int} {x2:Int} {x3:cx} {x4:Int} {x5:Int} {vs:List Value} (h:Y.dh w L (R.mk x0 x1 x2 x3 x4 x5).D vs):L=[]/\vs=[.int .i64 x0,.int .i64 x1,.int .i64 x2,.string x3,.int .i64 x4,.int .i64 x5]/\dT x0/\dT x1/\dT x2/\x3.size<=maxLen/\dT x4/\dT x5:=by
 rw[R.iM]at h
 have hl:=h.length
 match vs,hl,h with
 | [u0,u1,u2,u3,u4,u5],_,h =>
 simp only[Y.dh]at h
 obtain⟨M0,N0,e0,h0,M1,N1,e1,h1,M2,N2,e2,h2,M3,N3,e3,h3,M4,N4,e4,h4,M5,N5,e5,h5,en⟩:=h
 subst en
 subst e5
 subst e4
 subst e3
 subst e2
 subst e1
 subst e0
 obtain⟨rfl,rfl,g0⟩:=Y.eZ.1 h0
 obtain⟨rfl,rfl,g1⟩:=Y.eZ.1 h1
 obtain⟨rfl,rfl,g2⟩:=Y.eZ.1 h2
 obtain⟨rfl,rfl,g3⟩:=Y.mK.1 h3
 obtain⟨rfl,rfl,g4⟩:=Y.eZ.1 h4
 obtain⟨rfl,rfl,g5⟩:=Y.eZ.1 h5
 exact⟨by simp only[List.nil_append,List.append_nil],by simp only[ar],g0,g1,g2,g3,g4,g5⟩
theorem R.kL {w:World} {x0:Int} {x1:Int} {x2:Int} {x3:cx} {x4:Int} {x5:Int} (h0:dT x0) (h1:dT x1) (h2:dT x2) (h3:x3.size<=maxLen) (h4:dT x4) (h5:dT x5):Y.dh w ([]) (R.mk x0 x1 x2 x3 x4 x5).D [.int .i64 x0,.int .i64 x1,.int .i64 x2,.string x3,.int .i64 x4,.int .i64 x5]:=by
 rw[R.iM]
 exact⟨[],_,(List.nil_append _).symm,Y.eZ.2 ⟨rfl,rfl,h0⟩,⟨[],_,(List.nil_append _).symm,Y.eZ.2 ⟨rfl,rfl,h1⟩,⟨[],_,(List.nil_append _).symm,Y.eZ.2 ⟨rfl,rfl,h2⟩,⟨[],_,(List.nil_append _).symm,Y.mK.2 ⟨rfl,rfl,h3⟩,⟨[],_,(List.nil_append _).symm,Y.eZ.2 ⟨rfl,rfl,h4⟩,⟨[],_,(List.nil_append _).symm,Y.eZ.2 ⟨rfl,rfl,h5⟩,rfl⟩⟩⟩⟩⟩⟩
theorem cr.mw {w:World} {L:List Nat} {x0:Int} {x1:Int} {x2:Int} {x3:List R} {x4:List R} {vs:List Value} (h:Y.dh w L (cr.mk x0 x1 x2 x3 x4).D vs):∃A3 c3 L3 A4 c4 L4,L=L3++L4/\vs=[.int .i64 x0,.int .i64 x1,.int .i64 x2,.slice A3 x3.length c3,.slice A4 x4.length c4]/\dT x0/\dT x1/\dT x2/\du w L3 6 A3 c3 (x3.map R.D)/\du w L4 6 A4 c4 (x4.map R.D):=by
 rw[cr.iM]at h
 have hl:=h.length
 match vs,hl,h with
 | [u0,u1,u2,u3,u4],_,h =>
 simp only[Y.dh]at h
 obtain⟨M0,N0,e0,h0,M1,N1,e1,h1,M2,N2,e2,h2,M3,N3,e3,h3,M4,N4,e4,h4,en⟩:=h
 subst en
 subst e4
 subst e3
 subst e2
 subst e1
 subst e0
 obtain⟨rfl,rfl,g0⟩:=Y.eZ.1 h0
 obtain⟨rfl,rfl,g1⟩:=Y.eZ.1 h1
 obtain⟨rfl,rfl,g2⟩:=Y.eZ.1 h2
 obtain⟨A3,c3,rfl,g3⟩:=Y.gW.1 h3
 obtain⟨A4,c4,rfl,g4⟩:=Y.gW.1 h4
 exact⟨A3,c3,M3,A4,c4,M4,by simp only[List.nil_append,List.append_nil],by simp only[ar],g0,g1,g2,g3,g4⟩
theorem cr.kL {w:World} {x0:Int} {x1:Int} {x2:Int} {x3:List R} {x4:List R} {A3:Option Addr} {c3:Nat} {L3:List Nat} {A4:Option Addr} {c4:Nat} {L4:List Nat} (h0:dT x0) (h1:dT x1) (h2:dT x2) (h3:du w L3 6 A3 c3 (x3.map R.D)) (h4:du w L4 6 A4 c4 (x4.map R.D)):Y.dh w (L3++L4) (cr.mk x0 x1 x2 x3 x4).D [.int .i64 x0,.int .i64 x1,.int .i64 x2,.slice A3 x3.length c3,.slice A4 x4.length c4]:=by
 rw[cr.iM]
 exact⟨[],_,(List.nil_append _).symm,Y.eZ.2 ⟨rfl,rfl,h0⟩,⟨[],_,(List.nil_append _).symm,Y.eZ.2 ⟨rfl,rfl,h1⟩,⟨[],_,(List.nil_append _).symm,Y.eZ.2 ⟨rfl,rfl,h2⟩,⟨L3,_,rfl,Y.gW.2 ⟨_,_,by simp only[ar],h3⟩,⟨L4,_,(List.append_nil _).symm,Y.gW.2 ⟨_,_,by simp only[ar],h4⟩,rfl⟩⟩⟩⟩⟩
theorem cV.mw {w:World} {L:List Nat} {x0:Int} {x1:Int} {vs:List Value} (h:Y.dh w L (cV.mk x0 x1).D vs):L=[]/\vs=[.int .i64 x0,.int .i64 x1]/\dT x0/\dT x1:=by
 rw[cV.iM]at h
 have hl:=h.length
 match vs,hl,h with
 | [u0,u1],_,h =>
 simp only[Y.dh]at h
 obtain⟨M0,N0,e0,h0,M1,N1,e1,h1,en⟩:=h
 subst en
 subst e1
 subst e0
 obtain⟨rfl,rfl,g0⟩:=Y.eZ.1 h0
 obtain⟨rfl,rfl,g1⟩:=Y.eZ.1 h1
 exact⟨by simp only[List.nil_append,List.append_nil],by simp only[ar],g0,g1⟩
theorem cV.kL {w:World} {x0:Int} {x1:Int} (h0:dT x0) (h1:dT x1):Y.dh w ([]) (cV.mk x0 x1).D [.int .i64 x0,.int .i64 x1]:=by
 rw[cV.iM]
 exact⟨[],_,(List.nil_append _).symm,Y.eZ.2 ⟨rfl,rfl,h0⟩,⟨[],_,(List.nil_append _).symm,Y.eZ.2 ⟨rfl,rfl,h1⟩,rfl⟩⟩
theorem O.mw {w:World} {L:List Nat} {x0:List cx} {x1:List cw} {x2:List cr} {x3:List R} {x4:cx} {x5:Int} {x6:List cx} {x7:List cx} {x8:List cV} {x9:Bool} {F:Int} {G:Int} {Z:Int} {vs:List Value} (h:Y.dh w L (O.mk x0 x1 x2 x3 x4 x5 x6 x7 x8 x9 F G Z).D vs):∃A0 c0 L0 A1 c1 L1 A2 c2 L2 A3 c3 L3 A6 c6 L6 A7 c7 L7 A8 c8 L8,L=L0++(L1++(L2++(L3++(L6++(L7++L8)))))/\vs=[.slice A0 x0.length c0,.slice A1 x1.length c1,.slice A2 x2.length c2,.slice A3 x3.length c3,.string x4,.int .i64 x5,.slice A6 x6.length c6,.slice A7 x7.length c7,.slice A8 x8.length c8,.bool x9,.int .i64 F,.int .i64 G,.int .i64 Z]/\du w L0 1 A0 c0 (x0.map (fun x=>[Y.str x]))/\du w L1 3 A1 c1 (x1.map cw.D)/\du w L2 5 A2 c2 (x2.map cr.D)/\du w L3 6 A3 c3 (x3.map R.D)/\x4.size<=maxLen/\dT x5/\du w L6 1 A6 c6 (x6.map (fun x=>[Y.str x]))/\du w L7 1 A7 c7 (x7.map (fun x=>[Y.str x]))/\du w L8 2 A8 c8 (x8.map cV.D)/\True/\dT F/\dT G/\dT Z:=by
 rw[O.iM]at h
 have hl:=h.length
 obtain⟨u0,u1,u2,u3,u4,u5,u6,u7,u8,u9,rX,rY,qu,rfl⟩:=WL (hl.trans rfl)
 clear hl
 simp only[Y.dh]at h
 obtain⟨M0,N0,e0,h0,M1,N1,e1,h1,M2,N2,e2,h2,M3,N3,e3,h3,M4,N4,e4,h4,M5,N5,e5,h5,M6,N6,e6,h6,M7,N7,e7,h7,M8,N8,e8,h8,M9,N9,e9,h9,M10,N10,iE,Be,M11,N11,jc,CU,M12,N12,jd,CV,en⟩:=h
 subst en
 subst jd
 subst jc
 subst iE
 subst e9
 subst e8
 subst e7
 subst e6
 subst e5
 subst e4
 subst e3
 subst e2
 subst e1
 subst e0
 obtain⟨A0,c0,rfl,g0⟩:=Y.gW.1 h0
 obtain⟨A1,c1,rfl,g1⟩:=Y.gW.1 h1
 obtain⟨A2,c2,rfl,g2⟩:=Y.gW.1 h2
 obtain⟨A3,c3,rfl,g3⟩:=Y.gW.1 h3
 obtain⟨rfl,rfl,g4⟩:=Y.mK.1 h4
 obtain⟨rfl,rfl,g5⟩:=Y.eZ.1 h5
 obtain⟨A6,c6,rfl,g6⟩:=Y.gW.1 h6
 obtain⟨A7,c7,rfl,g7⟩:=Y.gW.1 h7
 obtain⟨A8,c8,rfl,g8⟩:=Y.gW.1 h8
 obtain⟨rfl,rfl⟩:=Y.yo.1 h9
 obtain⟨rfl,rfl,g10⟩:=Y.eZ.1 Be
 obtain⟨rfl,rfl,g11⟩:=Y.eZ.1 CU
 obtain⟨rfl,rfl,g12⟩:=Y.eZ.1 CV
 exact⟨A0,c0,M0,A1,c1,M1,A2,c2,M2,A3,c3,M3,A6,c6,M6,A7,c7,M7,A8,c8,M8,by simp only[List.nil_append,List.append_nil],by simp only[ar],g0,g1,g2,g3,g4,g5,g6,g7,g8,trivial,g10,g11,g12⟩
theorem O.kL {w:World} {x0:List cx} {x1:List cw} {x2:List cr} {x3:List R} {x4:cx} {x5:Int} {x6:List cx} {x7:List cx} {x8:List cV} {x9:Bool} {F:Int} {G:Int} {Z:Int} {A0:Option Addr} {c0:Nat} {L0:List Nat} {A1:Option Addr} {c1:Nat} {L1:List Nat} {A2:Option Addr} {c2:Nat} {L2:List Nat} {A3:Option Addr} {c3:Nat} {L3:List Nat} {A6:Option Addr} {c6:Nat} {L6:List Nat} {A7:Option Addr} {c7:Nat} {L7:List Nat} {A8:Option Addr} {c8:Nat} {L8:List Nat} (h0:du w L0 1 A0 c0 (x0.map (fun x=>[Y.str x]))) (h1:du w L1 3 A1 c1 (x1.map cw.D)) (h2:du w L2 5 A2 c2 (x2.map cr.D)) (h3:du w L3 6 A3 c3 (x3.map R.D)) (h4:x4.size<=maxLen) (h5:dT x5) (h6:du w L6 1 A6 c6 (x6.map (fun x=>[Y.str x]))) (h7:du w L7 1 A7 c7 (x7.map (fun x=>[Y.str x]))) (h8:du w L8 2 A8 c8 (x8.map cV.D)) (Be:dT F) (CU:dT G) (CV:dT Z):Y.dh w (L0++(L1++(L2++(L3++(L6++(L7++L8)))))) (O.mk x0 x1 x2 x3 x4 x5 x6 x7 x8 x9 F G Z).D [.slice A0 x0.length c0,.slice A1 x1.length c1,.slice A2 x2.length c2,.slice A3 x3.length c3,.string x4,.int .i64 x5,.slice A6 x6.length c6,.slice A7 x7.length c7,.slice A8 x8.length c8,.bool x9,.int .i64 F,.int .i64 G,.int .i64 Z]:=by
 rw[O.iM]
 exact⟨L0,_,rfl,Y.gW.2 ⟨_,_,by simp only[ar],h0⟩,⟨L1,_,rfl,Y.gW.2 ⟨_,_,by simp only[ar],h1⟩,⟨L2,_,rfl,Y.gW.2 ⟨_,_,by simp only[ar],h2⟩,⟨L3,_,rfl,Y.gW.2 ⟨_,_,by simp only[ar],h3⟩,⟨[],_,(List.nil_append _).symm,Y.mK.2 ⟨rfl,rfl,h4⟩,⟨[],_,(List.nil_append _).symm,Y.eZ.2 ⟨rfl,rfl,h5⟩,⟨L6,_,rfl,Y.gW.2 ⟨_,_,by simp only[ar],h6⟩,⟨L7,_,rfl,Y.gW.2 ⟨_,_,by simp only[ar],h7⟩,⟨L8,_,(List.append_nil _).symm,Y.gW.2 ⟨_,_,by simp only[ar],h8⟩,⟨[],_,(List.nil_append _).symm,Y.yo.2 ⟨rfl,rfl⟩,⟨[],_,(List.nil_append _).symm,Y.eZ.2 ⟨rfl,rfl,Be⟩,⟨[],_,(List.nil_append _).symm,Y.eZ.2 ⟨rfl,rfl,CU⟩,⟨[],_,(List.nil_append _).symm,Y.eZ.2 ⟨rfl,rfl,CV⟩,rfl⟩⟩⟩⟩⟩⟩⟩⟩⟩⟩⟩⟩⟩
end Go.Proofs.YtjngkknbpfgdcaaGreatDoor
