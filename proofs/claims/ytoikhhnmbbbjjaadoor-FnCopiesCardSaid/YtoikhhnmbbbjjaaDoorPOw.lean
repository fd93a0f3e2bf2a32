/- Data of the call's own: every slice lies in a block of its own; the blocks are listed. -/
import Derived.Test.YtoikhhnmbbbjjaaDoorPB
import Derived.OwnWalk
import Derived.Deep.RegionHeld3
import Derived.Laws.IdiomStrings
namespace Go.Proofs.YtoikhhnmbbbjjaaDoor
set_option linter.unusedVariables false
set_option linter.unusedSimpArgs false
set_option maxRecDepth 100000
open Go.RowKit
mutual
/-- The value v holds d; its slices lie in the blocks of L, one each, none of them frozen. -/
def Dat.Own (w:World):List Nat→Dat→Value→Prop
 | L,.int n,v=>L=[]∧v=.int .i64 n∧InI n
 | L,.str s,v=>L=[]∧v=.string s∧s.size≤maxLen
 | L,.bool b,v=>L=[]∧v=.bool b
 | L,.row k xs,v=>∃A c,v=.slice A xs.length c∧xs.length≤c∧c≤maxLen∧((xs=[]∧L=[]∧c=0)∨(∃b o L',A=some ⟨b,o,none⟩∧b<w.heap.size∧(∀i,w.frozen? ⟨b,i,none⟩=false)∧L=b :: L'∧(∀i,i<c*k→∃u,w.cell? ⟨b,o+i,none⟩=some u)∧Dat.OwnRows w k b o L' xs))
def Dat.OwnRows (w:World) (k b:Nat):Nat→List Nat→List (List Dat)→Prop
 | _,L,[]=>L=[]
 | o,L,ds :: r=>∃L1 L2,L=L1++L2∧Dat.OwnCells w b o L1 ds∧ds.length=k∧Dat.OwnRows w k b (o+k) L2 r
def Dat.OwnCells (w:World) (b:Nat):Nat→List Nat→List Dat→Prop
 | _,L,[]=>L=[]
 | o,L,d :: r=>∃L1 L2,L=L1++L2∧(∃u,w.cell? ⟨b,o,none⟩=some u∧Dat.Own w L1 d u)∧Dat.OwnCells w b (o+1) L2 r
end
def Dat.OwnVals (w:World):List Nat→List Dat→List Value→Prop
 | L,[],[]=>L=[]
 | L,d :: r,v :: vs=>∃L1 L2,L=L1++L2∧Dat.Own w L1 d v∧Dat.OwnVals w L2 r vs
 | _,_,_=>False
def OwnRow (w:World) (L:List Nat) (k:Nat) (A:Option Addr) (c:Nat) (xs:List (List Dat)):Prop :=
 xs.length≤c∧c≤maxLen∧((xs=[]∧L=[]∧c=0)∨(∃b o L',A=some ⟨b,o,none⟩∧b<w.heap.size∧(∀i,w.frozen? ⟨b,i,none⟩=false)∧L=b :: L'∧(∀i,i<c*k→∃u,w.cell? ⟨b,o+i,none⟩=some u)∧Dat.OwnRows w k b o L' xs))
section
variable {w w':World}
theorem Dat.own_int {L:List Nat} {n:Int} {v:Value}:(Dat.int n).Own w L v↔L=[]∧v=.int .i64 n∧InI n:=by simp only[Dat.Own]
theorem Dat.own_str {L:List Nat} {s:ByteArray} {v:Value}:(Dat.str s).Own w L v↔L=[]∧v=.string s∧s.size≤maxLen:=by simp only[Dat.Own]
theorem Dat.own_bool {L:List Nat} {b:Bool} {v:Value}:(Dat.bool b).Own w L v↔L=[]∧v=.bool b:=by simp only[Dat.Own]
theorem Dat.own_row {L:List Nat} {k:Nat} {xs:List (List Dat)} {v:Value}:(Dat.row k xs).Own w L v↔∃A c,v=.slice A xs.length c∧OwnRow w L k A c xs:=by simp only[Dat.Own,OwnRow]
def SameB (w w':World) (b:Nat):Prop:=(∀o,w'.cell? ⟨b,o,none⟩=w.cell? ⟨b,o,none⟩)∧(∀o,w'.frozen? ⟨b,o,none⟩=w.frozen? ⟨b,o,none⟩)
theorem SameB.refl (w:World) (b:Nat):SameB w w b:=⟨fun _=>rfl,fun _=>rfl⟩
theorem SameB.trans {a b c:World} {i:Nat} (h:SameB a b i) (k:SameB b c i):SameB a c i:=⟨fun o=>(k.1 o).trans (h.1 o),fun o=>(k.2 o).trans (h.2 o)⟩
mutual
theorem Dat.Own.keep (hs:w.heap.size≤w'.heap.size):∀(d:Dat) (L:List Nat) (v:Value),(∀b,b∈L→SameB w w' b)→d.Own w L v→d.Own w' L v
 | .int n,L,v,_,h=>by simpa only[Dat.Own]using h
 | .str s,L,v,_,h=>by simpa only[Dat.Own]using h
 | .bool b,L,v,_,h=>by simpa only[Dat.Own]using h
 | .row k xs,L,v,hL,h=>by
  simp only[Dat.Own]at h ⊢
  obtain⟨A,c,rfl,hl,hc,hx⟩:=h
  refine⟨A,c,rfl,hl,hc,?_⟩
  rcases hx with hx | ⟨b,o,L',rfl,g1,g2,rfl,gr,hr⟩
  ·
   exact Or.inl hx
  ·
   have hb:=hL b (by simp)
   exact Or.inr ⟨b,o,L',rfl,by omega,fun i=>(hb.2 i).trans (g2 i),rfl,fun i hi=>(gr i hi).imp fun u hu=>(hb.1 _).trans hu,Dat.OwnRows.keep hs b xs o L' (fun i _ _=>hb.1 i) (fun i hi=>hL i (by simp[hi])) hr⟩
theorem Dat.OwnRows.keep (hs:w.heap.size≤w'.heap.size) {k:Nat} (b:Nat):∀(xs:List (List Dat)) (o:Nat) (L:List Nat),(∀i,o≤i→i<o+xs.length*k→w'.cell? ⟨b,i,none⟩=w.cell? ⟨b,i,none⟩)→(∀b,b∈L→SameB w w' b)→Dat.OwnRows w k b o L xs→Dat.OwnRows w' k b o L xs
 | [],o,L,_,_,h=>by simpa only[Dat.OwnRows]using h
 | ds :: r,o,L,hb,hL,h=>by
  simp only[Dat.OwnRows]at h ⊢
  obtain⟨L1,L2,rfl,h1,h2,h3⟩:=h
  have e:(ds :: r).length*k=r.length*k+k:=by simp[Nat.succ_mul]
  rw[e]at hb
  exact⟨L1,L2,rfl,Dat.OwnCells.keep hs b ds o L1 (fun i hi hj=>hb i hi (by omega)) (fun i hi=>hL i (by simp[hi])) h1,h2,Dat.OwnRows.keep hs b r (o+k) L2 (fun i hi hj=>hb i (by omega) (by omega)) (fun i hi=>hL i (by simp[hi])) h3⟩
theorem Dat.OwnCells.keep (hs:w.heap.size≤w'.heap.size) (b:Nat):∀(ds:List Dat) (o:Nat) (L:List Nat),(∀i,o≤i→i<o+ds.length→w'.cell? ⟨b,i,none⟩=w.cell? ⟨b,i,none⟩)→(∀b,b∈L→SameB w w' b)→Dat.OwnCells w b o L ds→Dat.OwnCells w' b o L ds
 | [],o,L,_,_,h=>by simpa only[Dat.OwnCells]using h
 | d :: r,o,L,hb,hL,h=>by
  simp only[Dat.OwnCells]at h ⊢
  obtain⟨L1,L2,rfl,⟨u,hu,hd⟩,hr⟩:=h
  simp only[List.length_cons]at hb
  exact⟨L1,L2,rfl,⟨u,(hb o (by omega) (by omega)).trans hu,Dat.Own.keep hs d L1 u (fun i hi=>hL i (by simp[hi])) hd⟩,Dat.OwnCells.keep hs b r (o+1) L2 (fun i hi hj=>hb i (by omega) (by omega)) (fun i hi=>hL i (by simp[hi])) hr⟩
end
theorem Dat.OwnVals.keep (hs:w.heap.size≤w'.heap.size):∀(ds:List Dat) (L:List Nat) (vs:List Value),(∀b,b∈L→SameB w w' b)→Dat.OwnVals w L ds vs→Dat.OwnVals w' L ds vs
 | [],_,[],_,h=>h
 | d :: r,L,v :: vs,hL,h=>by
  obtain⟨L1,L2,rfl,h1,h2⟩:=h
  exact⟨L1,L2,rfl,Dat.Own.keep hs d L1 v (fun i hi=>hL i (by simp[hi])) h1,Dat.OwnVals.keep hs r L2 vs (fun i hi=>hL i (by simp[hi])) h2⟩
 | [],_,_ :: _,_,h=>h.elim
 | _ :: _,_,[],_,h=>h.elim
theorem OwnRow.keep (hs:w.heap.size≤w'.heap.size) {L:List Nat} (hL:∀b,b∈L→SameB w w' b) {k:Nat} {A:Option Addr} {c:Nat} {xs:List (List Dat)} (h:OwnRow w L k A c xs):OwnRow w' L k A c xs:=by
 have:(Dat.row k xs).Own w L (.slice A xs.length c):=Dat.own_row.2 ⟨A,c,rfl,h⟩
 obtain⟨A',c',e,h'⟩:=Dat.own_row.1 (Dat.Own.keep hs _ _ _ hL this)
 cases e
 exact h'
theorem OwnRow.nil (w:World) (k:Nat) (A:Option Addr) (c:Nat) (h:c≤maxLen*0):OwnRow w [] k A c []:=⟨by simp,Nat.le_trans h (Nat.zero_le _),Or.inl ⟨rfl,rfl,by omega⟩⟩
mutual
theorem Dat.Own.lt:∀(d:Dat) (L:List Nat) (v:Value),d.Own w L v→∀b,b∈L→b<w.heap.size
 | .int n,L,v,h,b,hb=>by simp only[Dat.Own]at h;rw[h.1]at hb;simp at hb
 | .str s,L,v,h,b,hb=>by simp only[Dat.Own]at h;rw[h.1]at hb;simp at hb
 | .bool x,L,v,h,b,hb=>by simp only[Dat.Own]at h;rw[h.1]at hb;simp at hb
 | .row k xs,L,v,h,b,hb=>by
  simp only[Dat.Own]at h
  obtain⟨A,c,rfl,_,_,hx⟩:=h
  rcases hx with⟨_,rfl,_⟩ | ⟨b',o,L',rfl,g1,_,rfl,_,hr⟩
  ·
   simp at hb
  ·
   rcases List.mem_cons.1 hb with rfl | hb
   ·
    exact g1
   ·
    exact Dat.OwnRows.lt xs o L' hr b hb
theorem Dat.OwnRows.lt {k g:Nat}:∀(xs:List (List Dat)) (o:Nat) (L:List Nat),Dat.OwnRows w k g o L xs→∀b,b∈L→b<w.heap.size
 | [],o,L,h,b,hb=>by simp only[Dat.OwnRows]at h;rw[h]at hb;simp at hb
 | ds :: r,o,L,h,b,hb=>by
  simp only[Dat.OwnRows]at h
  obtain⟨L1,L2,rfl,h1,h2,h3⟩:=h
  rcases List.mem_append.1 hb with hb | hb
  ·
   exact Dat.OwnCells.lt ds o L1 h1 b hb
  ·
   exact Dat.OwnRows.lt r _ L2 h3 b hb
theorem Dat.OwnCells.lt {g:Nat}:∀(ds:List Dat) (o:Nat) (L:List Nat),Dat.OwnCells w g o L ds→∀b,b∈L→b<w.heap.size
 | [],o,L,h,b,hb=>by simp only[Dat.OwnCells]at h;rw[h]at hb;simp at hb
 | d :: r,o,L,h,b,hb=>by
  simp only[Dat.OwnCells]at h
  obtain⟨L1,L2,rfl,⟨u,hu,hd⟩,hr⟩:=h
  rcases List.mem_append.1 hb with hb | hb
  ·
   exact Dat.Own.lt d L1 u hd b hb
  ·
   exact Dat.OwnCells.lt r _ L2 hr b hb
end
theorem OwnRow.lt {L:List Nat} {k:Nat} {A:Option Addr} {c:Nat} {xs:List (List Dat)} (h:OwnRow w L k A c xs):∀b,b∈L→b<w.heap.size :=
 Dat.Own.lt (.row k xs) L (.slice A xs.length c) (Dat.own_row.2 ⟨A,c,rfl,h⟩)
theorem Dat.OwnVals.lt:∀(ds:List Dat) (L:List Nat) (vs:List Value),Dat.OwnVals w L ds vs→∀b,b∈L→b<w.heap.size
 | [],L,[],h,b,hb=>by have:L=[]:=h;rw[this]at hb;simp at hb
 | d :: r,L,v :: vs,h,b,hb=>by
  obtain⟨L1,L2,rfl,h1,h2⟩:=h
  rcases List.mem_append.1 hb with hb | hb
  ·
   exact Dat.Own.lt d L1 v h1 b hb
  ·
   exact Dat.OwnVals.lt r L2 vs h2 b hb
 | [],_,_ :: _,h,_,_=>h.elim
 | _ :: _,_,[],h,_,_=>h.elim
theorem Bel.same (hb:Bel w w') {b:Nat} (h:b<w.heap.size):SameB w w' b:=⟨hb.box b h,hb.boxf b h⟩
theorem OwnRow.bel (hb:Bel w w') {L:List Nat} {k:Nat} {A:Option Addr} {c:Nat} {xs:List (List Dat)} (h:OwnRow w L k A c xs):OwnRow w' L k A c xs:=OwnRow.keep hb.size (fun b hm=>hb.same (h.lt b hm)) h
theorem Dat.OwnVals.bel (hb:Bel w w') {L:List Nat} {ds:List Dat} {vs:List Value} (h:Dat.OwnVals w L ds vs):Dat.OwnVals w' L ds vs:=Dat.OwnVals.keep hb.size _ _ _ (fun b hm=>hb.same (h.lt _ _ _ b hm)) h
mutual
theorem Dat.Own.holds {S:Nat→Prop}:∀(d:Dat) (L:List Nat) (v:Value),(∀b,b∈L→S b)→d.Own w L v→d.Holds w S v
 | .int n,L,v,_,h=>by simp only[Dat.Own]at h;simp only[Dat.Holds];exact h.2
 | .str s,L,v,_,h=>by simp only[Dat.Own]at h;simp only[Dat.Holds];exact h.2
 | .bool b,L,v,_,h=>by simp only[Dat.Own]at h;simp only[Dat.Holds];exact h.2
 | .row k xs,L,v,hL,h=>by
  simp only[Dat.Own]at h
  simp only[Dat.Holds]
  obtain⟨A,c,rfl,hl,hc,hx⟩:=h
  refine⟨A,c,rfl,hl,hc,fun hne=>?_⟩
  rcases hx with⟨h0,_⟩ | ⟨b,o,L',rfl,g1,_,rfl,_,hr⟩
  ·
   exact absurd h0 hne
  ·
   exact⟨b,o,rfl,hL b (by simp),g1,Dat.OwnRows.holds xs o L' (fun i hi=>hL i (by simp[hi])) hr⟩
theorem Dat.OwnRows.holds {S:Nat→Prop} {k b:Nat}:∀(xs:List (List Dat)) (o:Nat) (L:List Nat),(∀b,b∈L→S b)→Dat.OwnRows w k b o L xs→Dat.HoldRows w S k b o xs
 | [],o,L,_,h=>by simp only[Dat.HoldRows]
 | ds :: r,o,L,hL,h=>by
  simp only[Dat.OwnRows]at h
  simp only[Dat.HoldRows]
  obtain⟨L1,L2,rfl,h1,h2,h3⟩:=h
  exact⟨Dat.OwnCells.holds ds o L1 (fun i hi=>hL i (by simp[hi])) h1,h2,Dat.OwnRows.holds r _ L2 (fun i hi=>hL i (by simp[hi])) h3⟩
theorem Dat.OwnCells.holds {S:Nat→Prop} {b:Nat}:∀(ds:List Dat) (o:Nat) (L:List Nat),(∀b,b∈L→S b)→Dat.OwnCells w b o L ds→Dat.HoldCells w S b o ds
 | [],o,L,_,h=>by simp only[Dat.HoldCells]
 | d :: r,o,L,hL,h=>by
  simp only[Dat.OwnCells]at h
  simp only[Dat.HoldCells]
  obtain⟨L1,L2,rfl,⟨u,hu,hd⟩,hr⟩:=h
  exact⟨⟨u,hu,Dat.Own.holds d L1 u (fun i hi=>hL i (by simp[hi])) hd⟩,Dat.OwnCells.holds r _ L2 (fun i hi=>hL i (by simp[hi])) hr⟩
end
theorem OwnRow.row {S:Nat→Prop} {L:List Nat} (hL:∀b,b∈L→S b) {k:Nat} {A:Option Addr} {c:Nat} {xs:List (List Dat)} (h:OwnRow w L k A c xs):Row w S k A c xs:=by
 obtain⟨A',c',e,h'⟩:=Dat.holds_row.1 (Dat.Own.holds (.row k xs) L (.slice A xs.length c) hL (Dat.own_row.2 ⟨A,c,rfl,h⟩))
 cases e
 exact h'
theorem Dat.OwnVals.vals {S:Nat→Prop}:∀{ds:List Dat} {L:List Nat} {vs:List Value},(∀b,b∈L→S b)→Dat.OwnVals w L ds vs→Dat.HoldVals w S ds vs
 | [],_,[],_,_=>trivial
 | d :: r,L,v :: vs,hL,h=>by
  obtain⟨L1,L2,rfl,h1,h2⟩:=h
  exact⟨Dat.Own.holds d L1 v (fun i hi=>hL i (by simp[hi])) h1,Dat.OwnVals.vals (fun i hi=>hL i (by simp[hi])) h2⟩
 | [],_,_ :: _,_,h=>h.elim
 | _ :: _,_,[],_,h=>h.elim
theorem Dat.OwnCells.of_vals {b:Nat}:∀{ds:List Dat} {L:List Nat} {vs:List Value} {o:Nat},Dat.OwnVals w L ds vs→(∀j,j<vs.length→w.cell? ⟨b,o+j,none⟩=vs[j]?)→Dat.OwnCells w b o L ds
 | [],_,[],_,h,_=>by simp only[Dat.OwnCells];exact h
 | [],_,_ :: _,_,h,_=>h.elim
 | _ :: _,_,[],_,h,_=>h.elim
 | d :: r,L,v :: vs,o,h,hc=>by
  simp only[Dat.OwnCells]
  obtain⟨L1,L2,rfl,h1,h2⟩:=h
  refine⟨L1,L2,rfl,⟨v,by simpa using hc 0 (by simp),h1⟩,Dat.OwnCells.of_vals h2 fun j hj=>?_⟩
  have:=hc (j+1) (by simpa using hj)
  rw[show o+(j+1)=o+1+j from by omega]at this
  simpa using this
theorem Dat.OwnCells.to_vals {b:Nat}:∀{ds:List Dat} {L:List Nat} {o:Nat},Dat.OwnCells w b o L ds→∃vs:List Value,Dat.OwnVals w L ds vs∧vs.length=ds.length∧∀j,j<vs.length→w.cell? ⟨b,o+j,none⟩=vs[j]?
 | [],L,_,h=>by simp only[Dat.OwnCells]at h;exact⟨[],h,rfl,fun _ h=>absurd h (by simp)⟩
 | d :: r,L,o,h=>by
  simp only[Dat.OwnCells]at h
  obtain⟨L1,L2,rfl,⟨u,hu,hd⟩,hr⟩:=h
  obtain⟨vs,h1,h2,h3⟩:=Dat.OwnCells.to_vals hr
  refine⟨u :: vs,⟨L1,L2,rfl,hd,h1⟩,by simp[h2],fun j hj=>?_⟩
  cases j with
  | zero=>simpa using hu
  | succ j =>
   have:=h3 j (by simpa using hj)
   rw[show o+1+j=o+(j+1)from by omega]at this
   simpa using this
theorem Dat.OwnVals.length:∀{ds:List Dat} {L:List Nat} {vs:List Value},Dat.OwnVals w L ds vs→vs.length=ds.length
 | [],_,[],_=>rfl
 | d :: r,_,v :: vs,h=>by
  obtain⟨_,_,_,_,h2⟩:=h
  simpa using Dat.OwnVals.length h2
 | [],_,_ :: _,h=>h.elim
 | _ :: _,_,[],h=>h.elim
theorem Dat.OwnRows.at {k b:Nat}:∀{xs:List (List Dat)} {o:Nat} {L:List Nat} (i:Nat) (_:Dat.OwnRows w k b o L xs) (hi:i<xs.length),∃L1 Le L2,L=L1++(Le++L2)∧Dat.OwnCells w b (o+i*k) Le xs[i]∧xs[i].length=k ∧
  ∀(w':World) (ds:List Dat) (Ln:List Nat),ds.length=k→w.heap.size≤w'.heap.size→(∀c,c∈L1∨c∈L2→SameB w w' c)→(∀j,j<o+i*k∨o+i*k+k≤j→w'.cell? ⟨b,j,none⟩=w.cell? ⟨b,j,none⟩)→Dat.OwnCells w' b (o+i*k) Ln ds→Dat.OwnRows w' k b o (L1++(Ln++L2)) (xs.set i ds)
 | [],_,_,_,_,h=>absurd h (by simp)
 | x :: r,o,L,0,h,_=>by
  simp only[Dat.OwnRows]at h
  obtain⟨L1,L2,rfl,h1,h2,h3⟩:=h
  refine⟨[],L1,L2,rfl,by simpa using h1,by simpa using h2,fun w' ds Ln hd hs hL hb hc=>?_⟩
  simp only[Nat.zero_mul,Nat.add_zero]at hb hc
  simp only[List.set_cons_zero,Dat.OwnRows]
  exact⟨Ln,L2,rfl,hc,hd,Dat.OwnRows.keep hs b r (o+k) L2 (fun i hi _=>hb i (Or.inr hi)) (fun i hi=>hL i (Or.inr hi)) h3⟩
 | x :: r,o,L,i+1,h,hi=>by
  simp only[Dat.OwnRows]at h
  obtain⟨L1,L2,rfl,h1,h2,h3⟩:=h
  obtain⟨M1,Me,M2,rfl,g1,g2,g3⟩:=Dat.OwnRows.at i h3 (by simpa using hi)
  have e:o+(i+1)*k=o+k+i*k:=by rw[Nat.add_mul];omega
  refine⟨L1++M1,Me,M2,by simp,by rw[e];simpa using g1,by simpa using g2,fun w' ds Ln hd hs hL hb hc=>?_⟩
  rw[e]at hb hc
  simp only[List.set_cons_succ,Dat.OwnRows]
  refine⟨L1,M1++(Ln++M2),by simp,Dat.OwnCells.keep hs b x o L1 (fun j _ hj=>hb j (Or.inl (by rw[h2]at hj;omega))) (fun c hc=>hL c (Or.inl (by simp[hc]))) h1,h2,g3 w' ds Ln hd hs (fun c hc=>hL c (hc.elim (fun q=>Or.inl (by simp[q])) Or.inr)) hb hc⟩
theorem OwnRow.at2 {k:Nat} {A:Option Addr} {c:Nat} {xs:List (List Dat)} {L:List Nat} (h:OwnRow w L k A c xs) (i:Nat) (hi:i<xs.length) :
  ∃b o L1 Le L2 vs,A=some ⟨b,o,none⟩∧b<w.heap.size∧(∀i,w.frozen? ⟨b,i,none⟩=false)∧L=b :: (L1++(Le++L2))∧Dat.OwnVals w Le xs[i] vs∧vs.length=k∧(∀j,j<k→w.cell? ⟨b,o+i*k+j,none⟩=vs[j]?) ∧
   ∀(w':World) (ds:List Dat) (vs':List Value) (Ln:List Nat),Dat.OwnVals w' Ln ds vs'→vs'.length=k→w.heap.size≤w'.heap.size→(∀c,c∈L1∨c∈L2→SameB w w' c)→(∀i,w'.frozen? ⟨b,i,none⟩=false)→(∀j,j<o+i*k∨o+i*k+k≤j→w'.cell? ⟨b,j,none⟩=w.cell? ⟨b,j,none⟩)→(∀j,j<k→w'.cell? ⟨b,o+i*k+j,none⟩=vs'[j]?)→OwnRow w' (b :: (L1++(Ln++L2))) k A c (xs.set i ds):=by
 obtain⟨h1,h2,h3⟩:=h
 rcases h3 with⟨rfl,_⟩ | ⟨b,o,L',rfl,g1,g2,rfl,gr,hr⟩
 ·
  simp at hi
 ·
  obtain⟨L1,Le,L2,rfl,k1,k2,k3⟩:=Dat.OwnRows.at i hr hi
  obtain⟨vs,v1,v2,v3⟩:=k1.to_vals
  refine⟨b,o,L1,Le,L2,vs,rfl,g1,g2,rfl,v1,by omega,fun j hj=>v3 j (by omega),?_⟩
  intro w' ds vs' Ln q1 q2 hs hL hf hb hc
  refine⟨by simpa using h1,h2,Or.inr ⟨b,o,_,rfl,by omega,hf,rfl,fun j hj=>?_,k3 w' ds Ln (by rw[←q1.length];exact q2) hs hL hb (Dat.OwnCells.of_vals q1 fun j hj=>hc j (by omega))⟩⟩
  rcases Nat.lt_or_ge j (i*k)with hl | hl
  ·
   rw[hb (o+j) (Or.inl (by omega))]
   exact gr j hj
  ·
   rcases Nat.lt_or_ge j (i*k+k)with hl2 | hl2
   ·
    have hc1:=hc (j - i*k) (by omega)
    rw[show o+i*k+(j - i*k)=o+j by omega]at hc1
    exact⟨vs'[j - i*k]'(by omega),hc1.trans (List.getElem?_eq_getElem (by omega))⟩
   ·
    rw[hb (o+j) (Or.inr (by omega))]
    exact gr j hj
theorem OwnRow.at {k:Nat} {A:Option Addr} {c:Nat} {xs:List (List Dat)} {L:List Nat} (h:OwnRow w L k A c xs) (i:Nat) (hi:i<xs.length) :
  ∃b o L1 Le L2 vs,A=some ⟨b,o,none⟩∧b<w.heap.size∧(∀i,w.frozen? ⟨b,i,none⟩=false)∧L=b :: (L1++(Le++L2))∧Dat.OwnVals w Le xs[i] vs∧vs.length=k∧(∀j,j<k→w.cell? ⟨b,o+i*k+j,none⟩=vs[j]?) ∧
   ∀(w':World) (ds:List Dat) (vs':List Value),Dat.OwnVals w' Le ds vs'→vs'.length=k→w.heap.size≤w'.heap.size→(∀c,c∈L1∨c∈L2→SameB w w' c)→(∀i,w'.frozen? ⟨b,i,none⟩=false)→(∀j,j<o+i*k∨o+i*k+k≤j→w'.cell? ⟨b,j,none⟩=w.cell? ⟨b,j,none⟩)→(∀j,j<k→w'.cell? ⟨b,o+i*k+j,none⟩=vs'[j]?)→OwnRow w' L k A c (xs.set i ds):=by
 obtain⟨b,o,L1,Le,L2,vs,e1,e2,e3,e4,e5,e6,e7,e8⟩:=h.at2 i hi
 exact⟨b,o,L1,Le,L2,vs,e1,e2,e3,e4,e5,e6,e7,fun w' ds vs' q1 q2 hs hL hf hb hc=>by rw[e4];exact e8 w' ds vs' Le q1 q2 hs hL hf hb hc⟩
end
structure OffS (S:Nat→Prop) (w w':World):Prop where
 os:w'.os=w.os
 tape:w'.tape=w.tape
 output:w'.output=w.output
 size:w.heap.size≤w'.heap.size
 block:∀b,S b→b<w.heap.size→w'.heap[b]?=w.heap[b]?
namespace OffS
variable {S:Nat→Prop} {a b c:World}
theorem same {w w':World} (h:OffS S w w') (i:Nat) (hi:S i) (hl:i<w.heap.size):SameB w w' i:=⟨fun o=>World.cell?_of_block (w:=w) (a:=⟨i,o,none⟩) (h.block i hi hl),fun o=>World.frozen?_of_block (w:=w) (a:=⟨i,o,none⟩) (h.block i hi hl)⟩
theorem refl (S:Nat→Prop) (w:World):OffS S w w:=⟨rfl,rfl,rfl,Nat.le_refl _,fun b _ _=>rfl⟩
theorem trans (h:OffS S a b) (k:OffS S b c):OffS S a c:=⟨k.os.trans h.os,k.tape.trans h.tape,k.output.trans h.output,Nat.le_trans h.size k.size,fun i hS hi=>(k.block i hS (Nat.lt_of_lt_of_le hi h.size)).trans (h.block i hS hi)⟩
theorem of_bel (S:Nat→Prop) (h:Bel a b):OffS S a b:=⟨Below.os h,Below.tape h,Below.output h,Bel.size h,fun i _ hi=>Below.block h i hi⟩
theorem bel (h:OffS S a b) (k:Bel b c):OffS S a c:=h.trans (of_bel S k)
theorem alloc (h:OffS S a b) (o:Obj):OffS S a (b.alloc o):=h.bel (Bel.alloc (Bel.refl _) o)
theorem drew (h:OffS S a b):OffS S a b.drew:=h.bel (Bel.drew (Bel.refl _))
theorem drewN (h:OffS S a b) (n:Nat):OffS S a (b.drewN n):=h.bel (Bel.drewN (Bel.refl _) n)
theorem set (h:OffS S a b) {p:Addr} (hp:¬S p.block) (v:Value):OffS S a (b.setCell p v) :=
 h.trans ⟨rfl,rfl,rfl,by simp,fun i hS _=>Below.heap_setCell _ _ _ _ (fun e=>hp (by rw[←e];exact hS))⟩
theorem toBel {w:World} (h:OffS S a b) (h0:Bel w a) (hS:∀x,x<w.heap.size→S x):Bel w b:=Below.trans h0 ⟨h.os,h.tape,h.output,h.size,fun i hi=>h.block i (hS i hi) (Nat.lt_of_lt_of_le hi (Bel.size h0))⟩
end OffS
theorem OwnRow.offS {w w':World} {S:Nat→Prop} (h:OffS S w w') {L:List Nat} (hd:∀x,x∈L→S x) {k:Nat} {A:Option Addr} {c:Nat} {xs:List (List Dat)} (hh:OwnRow w L k A c xs):OwnRow w' L k A c xs :=
 OwnRow.keep h.size (fun b hb=>h.same b (hd b hb) (hh.lt b hb)) hh
theorem Dat.OwnVals.offS {w w':World} {S:Nat→Prop} (h:OffS S w w') {L:List Nat} (hd:∀x,x∈L→S x) {ds:List Dat} {vs:List Value} (hh:Dat.OwnVals w L ds vs):Dat.OwnVals w' L ds vs :=
 Dat.OwnVals.keep h.size _ _ _ (fun b hb=>h.same b (hd b hb) (hh.lt _ _ _ b hb)) hh
theorem Row.offS {w w':World} {S0:Nat→Prop} (h:OffS S0 w w') {S:Nat→Prop} (hd:∀x,S x→S0 x) {k:Nat} {A:Option Addr} {c:Nat} {xs:List (List Dat)} (hh:Row w S k A c xs):Row w' S k A c xs :=
 Row.keep h.size (fun b o hb hl=>(h.same b (hd b hb) hl).1 o) (fun _ h=>h) hh
theorem Dat.HoldVals.offS {w w':World} {S0:Nat→Prop} (h:OffS S0 w w') {S:Nat→Prop} (hd:∀x,S x→S0 x) {ds:List Dat} {vs:List Value} (hh:Dat.HoldVals w S ds vs):Dat.HoldVals w' S ds vs :=
 Dat.HoldVals.keep h.size (fun b o hb hl=>(h.same b (hd b hb) hl).1 o) (fun _ h=>h) ds vs hh
theorem nodup_app {L M:List Nat} (h1:L.Nodup) (h2:M.Nodup) (h:∀a,a∈L→a∉M):(L++M).Nodup :=
 List.nodup_append.2 ⟨h1,h2,fun a ha b hb e=>h a ha (e▸hb)⟩
theorem nodup_app_lt {L M:List Nat} {n:Nat} (h1:L.Nodup) (h2:M.Nodup) (h3:∀a,a∈L→a<n) (h4:∀a,a∈M→n≤a):(L++M).Nodup :=
 nodup_app h1 h2 fun a ha hb=>by have:=h3 a ha;have:=h4 a hb;omega
def FillO (w:World) (g:Nat) (E:TypeId) (k n:Nat) (ds:List (List Dat)):Prop :=
 ds.length≤n∧(∃cur,w.heap[g]?=some (.cells cur E (0,0))∧cur.size=n*k)∧∃L,Dat.OwnRows w k g 0 L ds∧L.Nodup∧∀b,b∈L→g<b
section
variable {w w':World} {g:Nat} {E:TypeId} {k n:Nat} {ds:List (List Dat)}
theorem FillO.start (w:World) (E:TypeId) (k n:Nat) {cur:Array Value} (h:cur.size=n*k):FillO (w.alloc (.cells cur E)) w.heap.size E k n [] :=
 ⟨by simp,⟨cur,heap_alloc_new w _,h⟩,[],by simp only[Dat.OwnRows],by simp,by simp⟩
theorem FillO.lt (h:FillO w g E k n ds):g<w.heap.size:=by
 obtain⟨_,⟨cur,hc,_⟩,_⟩:=h
 rcases Nat.lt_or_ge g w.heap.size with h' | h'
 ·
  exact h'
 ·
  rw[Array.getElem?_eq_none h']at hc;cases hc
theorem FillO.bel (h:FillO w g E k n ds) (hb:Bel w w'):FillO w' g E k n ds:=by
 have hl:=h.lt
 obtain⟨h0,⟨cur,hc,hs⟩,L,h1,h2,h3⟩:=h
 exact⟨h0,⟨cur,(Below.block hb g hl).trans hc,hs⟩,L,Dat.OwnRows.keep hb.size g ds 0 L (fun i _ _=>hb.box g hl i) (fun b hm=>hb.same (Dat.OwnRows.lt _ _ _ h1 b hm)) h1,h2,h3⟩
theorem FillO.cell (h:FillO w g E k n ds) {i:Nat} (hi:i<n*k):∃u,w.cell? ⟨g,i,none⟩=some u:=by
 obtain⟨h0,⟨cur,hc,hs⟩,_⟩:=h
 refine⟨cur[i]'(by omega),?_⟩
 rw[cell_of_row w g i cur E (0,0) hc]
 exact Array.getElem?_eq_getElem (by omega)
theorem FillO.free (h:FillO w g E k n ds) (i:Nat):w.frozen? ⟨g,i,none⟩=false:=by
 obtain⟨h0,⟨cur,hc,hs⟩,_⟩:=h
 simp[World.frozen?,hc]
theorem Dat.OwnRows.snoc {b:Nat}:∀{xs:List (List Dat)} {o:Nat} {L M:List Nat} {d:List Dat},Dat.OwnRows w k b o L xs→Dat.OwnCells w b (o+xs.length*k) M d→d.length=k→Dat.OwnRows w k b o (L++M) (xs++[d])
 | [],o,L,M,d,h,hd,hk=>by
  simp only[Dat.OwnRows]at h
  subst h
  simp only[List.nil_append,Dat.OwnRows]
  exact⟨M,[],by simp,by simpa using hd,hk,rfl⟩
 | x :: r,o,L,M,d,h,hd,hk=>by
  simp only[Dat.OwnRows]at h
  obtain⟨L1,L2,rfl,h1,h2,h3⟩:=h
  simp only[List.cons_append,Dat.OwnRows]
  refine⟨L1,L2++M,by simp,h1,h2,Dat.OwnRows.snoc h3 ?_ hk⟩
  have e:o+(x :: r).length*k=o+k+r.length*k:=by simp[Nat.succ_mul];omega
  rw[←e]
  exact hd
theorem FillO.put {W:World} (h:FillO W g E k n ds) (hn:ds.length<n) (hb:Bel W w) {M:List Nat} {d:List Dat} {vs:List Value} (hv:Dat.OwnVals w M d vs) (hnd:M.Nodup) (hM:∀b,b∈M→W.heap.size≤b) (hk:vs.length=k):FillO (w.setCells g (ds.length*k) vs) g E k n (ds++[d]):=by
 have hl:=h.lt
 obtain⟨h0,⟨cur,hc,hs⟩,L,h1,h2,h3⟩:=h
 have hLW:=Dat.OwnRows.lt _ _ _ h1
 have hle:ds.length*k+k≤n*k:=by rw[←Nat.succ_mul];exact Nat.mul_le_mul_right k hn
 have hc':=(Below.block hb g hl).trans hc
 have h1':Dat.OwnRows w k g 0 L ds:=Dat.OwnRows.keep hb.size g ds 0 L (fun i _ _=>hb.box g hl i) (fun b hm=>hb.same (hLW b hm)) h1
 have hz:(w.setCells g (ds.length*k) vs).heap.size=w.heap.size:=size_setCells vs _ w
 have hg:=heap_setCells vs (ds.length*k) w cur hc'
 have hfar:∀b,b≠g→SameB w (w.setCells g (ds.length*k) vs) b:=fun b hb=>by
  have e:=heap_setCells_far hb vs (ds.length*k) w
  exact⟨fun o=>World.cell?_of_block e,fun o=>by simp[World.frozen?,e]⟩
 have hcells:∀i,(w.setCells g (ds.length*k) vs).cell? ⟨g,i,none⟩=(setAll cur (ds.length*k) vs)[i]?:=fun i=>cell_of_row _ g i _ E (0,0) hg
 refine⟨by simp;omega,⟨setAll cur (ds.length*k) vs,hg,by rw[setAll_size];exact hs⟩,L++M,?_,?_,?_⟩
 ·
  refine Dat.OwnRows.snoc (Dat.OwnRows.keep (by omega) g ds 0 L (fun i _ hi=>?_) (fun b hm=>hfar b (by have:=h3 b hm;omega)) h1') (Dat.OwnCells.of_vals (Dat.OwnVals.keep (by omega) _ _ _ (fun b hm=>hfar b (by have:=hM b hm;omega)) hv) fun j hj=>?_) (by rw[←hv.length];exact hk)
  ·
   rw[hcells,setAll_out _ _ _ _ (Or.inl (by omega)),←cell_of_row w g i cur E (0,0) hc']
  ·
   rw[hcells,Nat.zero_add]
   exact setAll_in vs _ cur j hj (by omega)
 ·
  exact nodup_app_lt h2 hnd hLW hM
 ·
  intro b hm
  rcases List.mem_append.1 hm with hm | hm
  ·
   exact h3 b hm
  ·
   have:=hM b hm
   omega
theorem FillO.snoc {α:Type} {D:α→List Dat} {l:List α} {j:Nat} {W:World} (h:FillO W g E k n ((l.map D).take j)) (hj:j<l.length) (hn:l.length=n) (hb:Bel W w)
  {M:List Nat} {vs:List Value} (hv:Dat.OwnVals w M (D l[j]) vs) (hnd:M.Nodup) (hM:∀b,b∈M→W.heap.size≤b) (hk:vs.length=k):FillO (w.setCells g (j*k) vs) g E k n ((l.map D).take (j+1)):=by
 have hlen:((l.map D).take j).length=j:=by simp;omega
 have:=h.put (by rw[hlen];omega) hb hv hnd hM hk
 rw[hlen]at this
 rw[take_snoc (by simpa using hj),List.getElem_map]
 exact this
theorem FillO.done {α:Type} {D:α→List Dat} {l:List α} {j:Nat} (h:FillO w g E k n ((l.map D).take j)) (hj:l.length≤j) (hn:l.length=n) (hm:n≤maxLen) :
  ∃L,OwnRow w L k (some ⟨g,0,none⟩) n (l.map D)∧L.Nodup∧∀b,b∈L→g≤b:=by
 rw[List.take_of_length_le (by simpa using hj)]at h
 have hl:=h.lt
 have hf:=h.free
 obtain⟨h0,⟨cur,hc,hs⟩,L,h1,h2,h3⟩:=h
 by_cases e:l=[]
 ·
  subst e
  exact⟨[],⟨by simp,hm,Or.inl ⟨rfl,rfl,by simpa using hn.symm⟩⟩,by simp,by simp⟩
 ·
  refine⟨g :: L,⟨h0,hm,Or.inr ⟨g,0,L,rfl,hl,hf,rfl,fun i hi=>⟨cur[i]'(by omega),?_⟩,h1⟩⟩,?_,?_⟩
  ·
   rw[Nat.zero_add,cell_of_row w g i cur E (0,0) hc]
   exact Array.getElem?_eq_getElem (by omega)
  ·
   exact List.nodup_cons.2 ⟨fun q=>by have:=h3 g q;omega,h2⟩
  ·
   intro b hb
   rcases List.mem_cons.1 hb with rfl | hb
   ·
    exact Nat.le_refl _
   ·
    exact Nat.le_of_lt (h3 b hb)
end
def digT:Nat→Nat→ByteArray→ByteArray
 | 0,_,t=>t
 | f+1,n,t=>if n=0 then t else digT f (n / 10) (⟨#[UInt8.ofNat (48+n % 10)]⟩++t)
def markT (k:Int):ByteArray:=⟨#[109]⟩++(if k≤0 then⟨#[48]⟩ else digT 64 k.toNat ByteArray.empty)
mutual
/-- How many marks a datum bears. -/
def Dat.cnt:Dat→Nat
 | .int _=>1
 | .str _=>1
 | .bool _=>1
 | .row _ xs=>Dat.cntR xs
def Dat.cntR:List (List Dat)→Nat
 | []=>0
 | ds :: r=>Dat.cntC ds+Dat.cntR r
def Dat.cntC:List Dat→Nat
 | []=>0
 | d :: r=>Dat.cnt d+Dat.cntC r
end
mutual
/-- The datum marked from k on. -/
def Dat.mark:Int→Dat→Dat
 | k,.int _=>.int k
 | k,.str _=>.str (markT k)
 | _,.bool b=>.bool b
 | k,.row n xs=>.row n (Dat.markR k xs)
def Dat.markR:Int→List (List Dat)→List (List Dat)
 | _,[]=>[]
 | k,ds :: r=>Dat.markC k ds :: Dat.markR (k+Dat.cntC ds) r
def Dat.markC:Int→List Dat→List Dat
 | _,[]=>[]
 | k,d :: r=>Dat.mark k d :: Dat.markC (k+Dat.cnt d) r
end
end Go.Proofs.YtoikhhnmbbbjjaaDoor
namespace Go.Proofs.YtoikhhnmbbbjjaaDoor
set_option linter.unusedVariables false
set_option linter.unusedSimpArgs false
set_option maxRecDepth 100000
open Go.RowKit
theorem run_append_none {P:Program} {w:World} (base:Nat) (t ty e:TypeId) (i:TypeInfo) (size:Nat) (ht:P.underlying t=some (.slice e)) (hi:P.info? e=some i) (v:Value) (n:Nat) (xs:List Value) (hown:w.ownsRow base e size v n xs) (A:Option Addr) (c:Nat) :
  (Builtin.append_ #[t,t] ty #[v,.slice A 0 c]).run P w=.ok v w:=by
 rcases hown.2 with⟨rfl,-⟩ | ⟨g,cap,cur,rfl,-,-,hn,-⟩
 all_goals cases A
 all_goals simp[Builtin.append_,run_underlying ht,sizeOf,typeInfo,hi,Builtin.lenOf,Builtin.firstCells,loadCells,loadCellsFrom,storeCells, * ]
theorem append_where {P:Program} {w w':World} (t ty e:TypeId) (i:TypeInfo) (z:Value) (ht:P.underlying t=some (.slice e)) (hi:P.info? e=some i) (hz:i.zero=some z)
  {v v':Value} {n:Nat} {xs:List Value} (hown:w.ownsRow 0 e i.size v n xs) (a:Addr) (m c:Nat) {news:List Value} (hl:news.length=m*i.size) (hnews:∀j u,news[j]?=some u→w.cell? (a.add j)=some u) (h1:∀u∈news,u.oneCell'=true)
  (h63:n+m≤maxLen) (hbytes:(n+m)*i.bytes≤140737488355328) (hr:(Builtin.append_ #[t,t] ty #[v,.slice (some a) m c]).run P w=.ok v' w'):∀k,v'.ownBlock=some k→v.ownBlock=some k∨w.heap.size≤k:=by
 intro k hk
 have hsm:=h63
 unfold maxLen at hsm
 rcases hown.2 with⟨rfl,rfl⟩ | ⟨g,cap,cur,rfl,-,hg,hnc,hcm,hcs,htake⟩
 ·
  rcases Nat.eq_zero_or_pos m with rfl | hm
  ·
   rw[run_append_none 0 t ty e i i.size ht hi _ 0 xs hown]at hr
   injection hr with hv
   subst hv
   cases hk
  ·
   rw[run_append_nil (P:=P) w t ty e i z ht hi hz a m c news hl hnews hm (by omega) (by simp only[Nat.zero_add]at hbytes;omega)]at hr
   injection hr with hv
   subst hv
   injection hk with hk
   exact Or.inr (Nat.le_of_eq hk)
 ·
  rcases Nat.lt_or_ge cap (n+m)with hc | hc
  ·
   rw[run_append_grow (P:=P) w t ty e i z ht hi hz ⟨g,0,none⟩ n cap xs hown.1 (hown.cells (g:=g) rfl) a m c news hl hnews hc (by omega) (growslice_fits hc hbytes)]at hr
   injection hr with hv
   subst hv
   injection hk with hk
   exact Or.inr (Nat.le_of_eq hk)
  ·
   rw[run_append_room (P:=P) w t ty e i ht hi g n cap cur hg a m c news hl hnews h1 hc (by rw[hl,hcs,←Nat.add_mul];exact Nat.mul_le_mul_right _ hc)]at hr
   injection hr with hv
   subst hv
   exact Or.inl hk
theorem wp_append_all {P:Program} {w:World} {o:Oper} {a:Act} {K:Act→World→Prop} {Q:Exit→Act→World→Prop} (s x:Operand) (t:TypeId) (ho:o.op=.call { callee:=.builtin .append,args:=#[s,x],argTypes:=#[t,t] })
  (e:TypeId) (i:TypeInfo) (z:Value) (size bytes:Nat) (ht:P.underlying t=some (.slice e)) (hi:P.info? e=some i) (hz:i.zero=some z) (hsize:i.size=size) (hby:i.bytes=bytes) (hzs:z.cells.size=size) (hsz:0<size)
  (v:Value) (n:Nat) (xs:List Value) (hs:a.eval s=v) (hown:w.ownsRow 0 e size v n xs) (A:Option Addr) (m c:Nat) (news:List Value) (hx:a.eval x=.slice A m c) (hl:news.length=m*size) (hA:A=none→m=0)
  (hnews:∀ad,A=some ad→∀j u,news[j]?=some u→w.cell? (ad.add j)=some u) (h1:∀u∈news,u.oneCell'=true) (h63:n+m≤maxLen) (hbytes:(n+m)*bytes≤140737488355328)
  (h:∀v' w',w'.ownsRow 0 e size v' (n+m) (xs++news)→w.grownBy w' v.ownBlock→(∀k,v'.ownBlock=some k→v.ownBlock=some k∨w.heap.size≤k)→K (a.put o.dst v') w'):o.wp P a w K Q:=by
 cases A with
 | none =>
  obtain rfl:=hA rfl
  obtain rfl:news=[]:=List.eq_nil_of_length_eq_zero (by simpa using hl)
  have hrun:=run_append_none (P:=P) 0 t o.type e i size ht hi v n xs hown none c
  unfold Oper.wp
  simp[execOp,ho,resolve,invoke,builtin,hs,hx,hrun,Result.andThen]
  exact h v w (by simpa using hown) (World.grownBy.refl _ _) (fun k hk=>Or.inl hk)
 | some ad =>
  subst hsize hby
  obtain⟨v',w',hr,h2,h3,-⟩:=run_append_own (P:=P) w 0 t o.type e i z i.size i.bytes ht hi hz rfl rfl hzs hsz v n xs hown ad m c news hl (hnews ad rfl) h1 h63 hbytes (Nat.zero_le _)
  have h5:=append_where t o.type e i z ht hi hz hown ad m c hl (hnews ad rfl) h1 h63 hbytes hr
  unfold Oper.wp
  simp[execOp,ho,resolve,invoke,builtin,hs,hx,hr,Result.andThen]
  exact h v' w' h2 h3 h5
def Dat.OwnFl (w:World) (k:Nat):List Nat→List (List Dat)→List Value→Prop
 | L,[],vs=>L=[]∧vs=[]
 | L,d :: r,vs=>∃L1 L2 v1 v2,L=L1++L2∧vs=v1++v2∧v1.length=k∧Dat.OwnVals w L1 d v1∧Dat.OwnFl w k L2 r v2
section
variable {w w':World} {k:Nat}
theorem Dat.OwnFl.lt:∀{ds:List (List Dat)} {L:List Nat} {vs:List Value},Dat.OwnFl w k L ds vs→∀b,b∈L→b<w.heap.size
 | [],L,vs,h,b,hb=>by rw[h.1]at hb;cases hb
 | d :: r,L,vs,⟨L1,L2,v1,v2,hL,hv,hl,h1,h2⟩,b,hb=>by
  subst hL
  rcases List.mem_append.1 hb with hb | hb
  ·
   exact h1.lt _ _ _ b hb
  ·
   exact Dat.OwnFl.lt h2 b hb
theorem Dat.OwnFl.keep (hs:w.heap.size≤w'.heap.size):∀{ds:List (List Dat)} {L:List Nat} {vs:List Value},(∀b,b∈L→SameB w w' b)→Dat.OwnFl w k L ds vs→Dat.OwnFl w' k L ds vs
 | [],L,vs,_,h=>h
 | d :: r,L,vs,hb,⟨L1,L2,v1,v2,hL,hv,hl,h1,h2⟩=>by
  subst hL
  exact⟨L1,L2,v1,v2,rfl,hv,hl,Dat.OwnVals.keep hs d L1 v1 (fun b h=>hb b (by simp[h])) h1,Dat.OwnFl.keep hs (fun b h=>hb b (by simp[h])) h2⟩
theorem Dat.OwnFl.append:∀{ds es:List (List Dat)} {L M:List Nat} {vs us:List Value},Dat.OwnFl w k L ds vs→Dat.OwnFl w k M es us→Dat.OwnFl w k (L++M) (ds++es) (vs++us)
 | [],es,L,M,vs,us,h,g=>by rw[h.1,h.2];exact g
 | d :: r,es,L,M,vs,us,⟨L1,L2,v1,v2,hL,hv,hl,h1,h2⟩,g=>by
  subst hL hv
  exact⟨L1,L2++M,v1,v2++us,by simp,by simp,hl,h1,Dat.OwnFl.append h2 g⟩
theorem Dat.OwnFl.len:∀{ds:List (List Dat)} {L:List Nat} {vs:List Value},Dat.OwnFl w k L ds vs→vs.length=ds.length*k
 | [],L,vs,h=>by rw[h.2];simp
 | d :: r,L,vs,⟨L1,L2,v1,v2,hL,hv,hl,h1,h2⟩=>by
  rw[hv,List.length_append,hl,Dat.OwnFl.len h2,List.length_cons,Nat.succ_mul,Nat.add_comm]
theorem Dat.Own.oneCell {d:Dat} {L:List Nat} {v:Value} (h:d.Own w L v):v.oneCell'=true:=by
 cases d with
 | int n=>rw[(Dat.own_int.1 h).2.1];rfl
 | str s=>rw[(Dat.own_str.1 h).2.1];rfl
 | bool b=>rw[(Dat.own_bool.1 h).2];rfl
 | row n xs=>obtain⟨A,c,rfl,_⟩:=Dat.own_row.1 h;rfl
theorem Dat.OwnVals.oneCell:∀{ds:List Dat} {L:List Nat} {vs:List Value},Dat.OwnVals w L ds vs→∀u∈vs,u.oneCell'=true
 | [],_,[],_,u,hu=>by cases hu
 | d :: r,_,v :: vs,⟨L1,L2,_,h1,h2⟩,u,hu=>by
  rcases List.mem_cons.1 hu with rfl | hu
  ·
   exact h1.oneCell
  ·
   exact Dat.OwnVals.oneCell h2 u hu
 | [],_,_ :: _,h,_,_=>h.elim
 | _ :: _,_,[],h,_,_=>h.elim
theorem Dat.OwnFl.oneCell:∀{ds:List (List Dat)} {L:List Nat} {vs:List Value},Dat.OwnFl w k L ds vs→∀u∈vs,u.oneCell'=true
 | [],L,vs,h,u,hu=>by rw[h.2]at hu;cases hu
 | d :: r,L,vs,⟨L1,L2,v1,v2,hL,hv,hl,h1,h2⟩,u,hu=>by
  rw[hv]at hu
  rcases List.mem_append.1 hu with hu | hu
  ·
   exact h1.oneCell u hu
  ·
   exact Dat.OwnFl.oneCell h2 u hu
theorem Dat.OwnFl.rows {g:Nat}:∀{ds:List (List Dat)} {L:List Nat} {vs:List Value} {o:Nat},Dat.OwnFl w k L ds vs→(∀j,j<vs.length→w.cell? ⟨g,o+j,none⟩=vs[j]?)→Dat.OwnRows w k g o L ds
 | [],L,vs,o,h,_=>by simp only[Dat.OwnRows];exact h.1
 | d :: r,L,vs,o,⟨L1,L2,v1,v2,hL,hv,hl,h1,h2⟩,hc=>by
  subst hL hv
  simp only[Dat.OwnRows]
  refine⟨L1,L2,rfl,Dat.OwnCells.of_vals h1 (fun j hj=>?_),by rw[←h1.length];exact hl,Dat.OwnFl.rows h2 (fun j hj=>?_)⟩
  ·
   rw[hc j (by rw[List.length_append];omega),List.getElem?_append_left hj]
  ·
   rw[show o+k+j=o+(k+j) by omega,hc (k+j) (by rw[List.length_append];omega),List.getElem?_append_right (by omega),hl,Nat.add_sub_cancel_left]
def Blk (v:Value) (L:List Nat) (b:Nat):Prop:=v.ownBlock=some b∨b∈L
def OwnD (w:World) (E:TypeId) (k:Nat) (v:Value) (L:List Nat) (ds:List (List Dat)):Prop :=
 ∃cs,w.ownsRow 0 E k v ds.length cs∧Dat.OwnFl w k L ds cs∧L.Nodup∧∀b,v.ownBlock=some b→b∉L
variable {E:TypeId} {v:Value} {L:List Nat} {ds:List (List Dat)}
theorem OwnD.lt (h:OwnD w E k v L ds):∀b,Blk v L b→b<w.heap.size:=by
 obtain⟨cs,h1,h2,-⟩:=h
 rintro b (hb | hb)
 ·
  exact (h1.lt b hb).2
 ·
  exact h2.lt b hb
theorem OwnD.keep (h:OwnD w E k v L ds) (hs:w.heap.size≤w'.heap.size) (hb:∀b,Blk v L b→w'.heap[b]?=w.heap[b]?):OwnD w' E k v L ds:=by
 obtain⟨cs,h1,h2,h3,h4⟩:=h
 refine⟨cs,⟨h1.1,?_⟩,h2.keep hs (fun b hm=>⟨fun o=>World.cell?_of_block (hb b (Or.inr hm)),fun o=>World.frozen?_of_block (hb b (Or.inr hm))⟩),h3,h4⟩
 rcases h1.2 with hn | ⟨g,cap,cur,rfl,hz,hg,r⟩
 ·
  exact Or.inl hn
 ·
  exact Or.inr ⟨g,cap,cur,rfl,hz,(hb g (Or.inl rfl)).trans hg,r⟩
theorem OwnD.bel (h:OwnD w E k v L ds) (hb:Bel w w'):OwnD w' E k v L ds:=h.keep hb.size fun b hm=>Below.block hb b (h.lt b hm)
theorem OwnD.offS {S:Nat→Prop} (h:OwnD w E k v L ds) (ho:OffS S w w') (hS:∀b,Blk v L b→S b):OwnD w' E k v L ds:=h.keep ho.size fun b hm=>ho.block b (hS b hm) (h.lt b hm)
theorem OwnD.nil (w:World) (E:TypeId) (k:Nat):OwnD w E k (.slice none 0 0) [] []:=⟨[],World.ownsRow_nil w 0 E k,⟨rfl,rfl⟩,List.nodup_nil,fun b h=>by cases h⟩
theorem OwnD.lit0 (w:World) (E:TypeId) (k:Nat):OwnD (w.alloc (.cells #[] E)) E k (.slice (some ⟨w.heap.size,0,none⟩) 0 0) [] [] :=
 ⟨[],World.ownsRow_made w #[] 0 (Nat.zero_le _) (by unfold maxLen;omega) (by simp),⟨rfl,rfl⟩,List.nodup_nil,fun b _ h=>by cases h⟩
theorem OwnD.lit1 {M:List Nat} {d:List Dat} {vs:List Value} (w:World) (E:TypeId) (hv:Dat.OwnVals w M d vs) (hk:vs.length=k) (hn:M.Nodup):OwnD (w.alloc (.cells vs.toArray E)) E k (.slice (some ⟨w.heap.size,0,none⟩) 1 1) M [d]:=by
 refine⟨vs,⟨by simp[hk],Or.inr ⟨w.heap.size,1,vs.toArray,rfl,Nat.zero_le _,heap_alloc_new w _,by simp,by unfold maxLen;omega,by simp[hk],by simp[←hk]⟩⟩,⟨M,[],vs,[],by simp,by simp,hk,Dat.OwnVals.bel bl hv,rfl,rfl⟩,hn,fun b hb hm=>?_⟩
 have:=hv.lt _ _ _ b hm
 simp only[Value.ownBlock,Option.some.injEq]at hb
 omega
theorem OwnD.ownRow (h:OwnD w E k v L ds):∃A c L',v=.slice A ds.length c∧OwnRow w L' k A c ds∧L'.Nodup∧∀b,b∈L'→Blk v L b:=by
 obtain⟨cs,h1,h2,h3,h4⟩:=h
 have hl:=h2.len
 rcases h1.2 with⟨rfl,h0⟩ | ⟨g,cap,cur,rfl,hz,hg,hn,hm,hsz,ht⟩
 ·
  obtain rfl:ds=[]:=List.eq_nil_of_length_eq_zero h0
  exact⟨none,0,[],rfl,OwnRow.nil w k none 0 (by unfold maxLen;omega),List.nodup_nil,fun b hb=>by cases hb⟩
 ·
  refine⟨_,cap,g :: L,rfl,⟨hn,hm,Or.inr ⟨g,0,L,rfl,(Array.getElem?_eq_some_iff.1 hg).1,fun i=>?_,rfl,fun i hi=>⟨cur[i]'(by omega),?_⟩,h2.rows fun j hj=>?_⟩⟩,List.nodup_cons.2 ⟨h4 g rfl,h3⟩,fun b hb=>?_⟩
  ·
   exact (World.ownsRow.frozenAt h1 i)
  ·
   rw[Nat.zero_add,cell_of_row w g i cur E (0,0) hg]
   exact Array.getElem?_eq_getElem (by omega)
  ·
   rw[Nat.zero_add]
   exact World.ownsRow.cellAt h1 j (by omega)
  ·
   rcases List.mem_cons.1 hb with rfl | hb
   ·
    exact Or.inl rfl
   ·
    exact Or.inr hb
theorem OwnD.row {S:Nat→Prop} (h:OwnD w E k v L ds) (hS:∀b,Blk v L b→S b):∃A c,v=.slice A ds.length c∧Row w S k A c ds:=by
 obtain⟨A,c,L',h1,h2,-,h4⟩:=h.ownRow
 exact⟨A,c,h1,OwnRow.row (fun b hb=>hS b (h4 b hb)) h2⟩
def Src (w:World) (k:Nat) (A:Option Addr) (m:Nat) (M:List Nat) (es:List (List Dat)) (news:List Value):Prop :=
 m=es.length∧(A=none→m=0)∧Dat.OwnFl w k M es news∧M.Nodup∧∀ad,A=some ad→∀j u,news[j]?=some u→w.cell? (ad.add j)=some u
theorem OwnD.src {A:Option Addr} {m c:Nat} (h:OwnD w E k (.slice A m c) L ds):∃news,Src w k A m L ds news:=by
 obtain⟨cs,h1,h2,h3,h4⟩:=h
 refine⟨cs,?_,?_,h2,h3,?_⟩
 all_goals rcases h1.2 with⟨hv,h0⟩ | ⟨g,cap,cur,hv,hz,hg,hn,hm,hsz,ht⟩
 all_goals (simp only[Value.slice.injEq]at hv;obtain⟨rfl,rfl,rfl⟩:=hv)
 ·
  omega
 ·
  rfl
 ·
  intro _;rfl
 ·
  intro hA;cases hA
 ·
  intro ad hA;cases hA
 ·
  intro ad hA
  obtain rfl:=Option.some.inj hA
  exact h1.cells (g:=g) rfl
def Dat.flat:Dat→Prop
 | .row _ _=>False
 | _=>True
theorem Dat.HoldVals.flat {S:Nat→Prop}:∀{ds:List Dat} {vs:List Value},(∀d∈ds,d.flat)→Dat.HoldVals w S ds vs→Dat.OwnVals w [] ds vs
 | [],[],_,_=>rfl
 | d :: r,v :: vs,hf,h=>by
  refine⟨[],[],rfl,?_,Dat.HoldVals.flat (fun d hd=>hf d (by simp[hd])) h.2⟩
  have hd:=hf d (by simp)
  have h1:=h.1
  cases d with
  | int n=>exact Dat.own_int.2 ⟨rfl,Dat.holds_int.1 h1⟩
  | str s=>exact Dat.own_str.2 ⟨rfl,Dat.holds_str.1 h1⟩
  | bool b=>exact Dat.own_bool.2 ⟨rfl,Dat.holds_bool.1 h1⟩
  | row n xs=>exact hd.elim
 | [],_ :: _,_,h=>h.elim
 | _ :: _,[],_,h=>h.elim
theorem Dat.HoldRows.flat {S:Nat→Prop} {b:Nat}:∀{xs:List (List Dat)} {o:Nat},(∀ds∈xs,∀d∈ds,d.flat)→Dat.HoldRows w S k b o xs→∃news,Dat.OwnFl w k [] xs news∧∀j,j<news.length→w.cell? ⟨b,o+j,none⟩=news[j]?
 | [],o,_,_=>⟨[],⟨rfl,rfl⟩,fun j hj=>by cases hj⟩
 | ds :: r,o,hf,h=>by
  simp only[Dat.HoldRows]at h
  obtain⟨h1,h2,h3⟩:=h
  obtain⟨vs,g1,g2,g3⟩:=h1.to_vals
  obtain⟨us,e1,e2⟩:=Dat.HoldRows.flat (fun d hd=>hf d (by simp[hd])) h3
  refine⟨vs++us,⟨[],[],vs,us,rfl,rfl,by omega,Dat.HoldVals.flat (hf ds (by simp)) g1,e1⟩,fun j hj=>?_⟩
  rcases Nat.lt_or_ge j vs.length with hl | hl
  ·
   rw[g3 j hl,List.getElem?_append_left hl]
  ·
   rw[List.getElem?_append_right hl,←e2 (j - vs.length) (by rw[List.length_append]at hj;omega)]
   congr 2
   omega
theorem Row.src {S:Nat→Prop} {A:Option Addr} {c:Nat} {xs:List (List Dat)} (hf:∀ds∈xs,∀d∈ds,d.flat) (h:Row w S k A c xs):∃news,Src w k A xs.length [] xs news:=by
 by_cases he:xs=[]
 ·
  subst he
  exact⟨[],rfl,fun _=>rfl,⟨rfl,rfl⟩,List.nodup_nil,fun ad _ j u hu=>by simp at hu⟩
 ·
  obtain⟨b,o,rfl,-,-,hr⟩:=h.2.2 he
  obtain⟨news,h1,h2⟩:=hr.flat hf
  refine⟨news,rfl,fun hA=>(by cases hA),h1,List.nodup_nil,fun ad hA j u hu=>?_⟩
  obtain rfl:=Option.some.inj hA
  have hj:j<news.length:=(List.getElem?_eq_some_iff.1 hu).1
  rw[addr_add,h2 j hj]
  exact hu
theorem Src.bel {A:Option Addr} {m:Nat} {M:List Nat} {es:List (List Dat)} {news:List Value} (h:Src w k A m M es news) (hb:Bel w w'):Src w' k A m M es news:=by
 obtain⟨h1,h2,h3,h4,h5⟩:=h
 exact⟨h1,h2,h3.keep hb.size (fun b hm=>hb.same (h3.lt b hm)),h4,fun ad hA j u hu=>(Below.cell hb (cell_in' (h5 ad hA j u hu)).2).trans (h5 ad hA j u hu)⟩
end
theorem wp_append_D {P:Program} {w:World} {o:Oper} {a:Act} {K:Act→World→Prop} {Q:Exit→Act→World→Prop} (s x:Operand) (t:TypeId) (ho:o.op=.call { callee:=.builtin .append,args:=#[s,x],argTypes:=#[t,t] })
  (E:TypeId) (i:TypeInfo) (z:Value) (k bytes:Nat) (ht:P.underlying t=some (.slice E)) (hi:P.info? E=some i) (hz:i.zero=some z) (hsize:i.size=k) (hby:i.bytes=bytes) (hzs:z.cells.size=k) (hsz:0<k)
  {v:Value} {L:List Nat} {ds:List (List Dat)} (hD:OwnD w E k v L ds) {A:Option Addr} {m:Nat} {M:List Nat} {es:List (List Dat)} {news:List Value} (hS:Src w k A m M es news) (c:Nat) (hs:a.eval s=v) (hx:a.eval x=.slice A m c)
  (hLM:∀b,Blk v L b→b∉M) (hlen:(ds.length+m)*bytes≤140737488355328) (hmax:ds.length+m≤maxLen)
  (h:∀v' w',OwnD w' E k v' (L++M) (ds++es)→w.grownBy w' v.ownBlock→(∀b,v'.ownBlock=some b→v.ownBlock=some b∨w.heap.size≤b)→K (a.put o.dst v') w'):o.wp P a w K Q:=by
 obtain⟨cs,h1,h2,h3,h4⟩:=hD
 obtain⟨rfl,g2,g3,g4,g5⟩:=hS
 refine wp_append_all s x t ho E i z k bytes ht hi hz hsize hby hzs hsz v ds.length cs hs h1 A es.length c news hx g3.len g2 g5 g3.oneCell hmax hlen fun v' w' q1 q2 q3=>h v' w' ⟨cs++news,by rw[List.length_append];exact q1,?_,nodup_app h3 g4 (fun b hb=>hLM b (Or.inr hb)),fun b hb hm=>?_⟩ q2 q3
 ·
  have same:∀b,b<w.heap.size→v.ownBlock≠some b→SameB w w' b:=fun b hb hne=>by
   have e:=q2.block b hb (fun q=>hne q.symm)
   exact⟨fun o=>World.cell?_of_block e,fun o=>World.frozen?_of_block e⟩
  exact Dat.OwnFl.append (h2.keep q2.size fun b hb=>same b (h2.lt b hb) (fun q=>h4 b q hb)) (g3.keep q2.size fun b hb=>same b (g3.lt b hb) (fun q=>hLM b (Or.inl q) hb))
 ·
  rcases q3 b hb with q | q
  ·
   rcases List.mem_append.1 hm with hm | hm
   ·
    exact h4 b q hm
   ·
    exact hLM b (Or.inl q) hm
  ·
   have:b<w.heap.size:=by
    rcases List.mem_append.1 hm with hm | hm
    ·
     exact h2.lt b hm
    ·
     exact g3.lt b hm
   omega
theorem wpList_append_D {P:Program} {w:World} {ops:Array Oper} {rest:List Oper} {o:Oper} {a:Act} {Q:Exit→Act→World→Prop} (hg:o.guard=none) (s x:Operand) (t:TypeId) (ho:o.op=.call { callee:=.builtin .append,args:=#[s,x],argTypes:=#[t,t] })
  (E:TypeId) (i:TypeInfo) (z:Value) (k bytes:Nat) (ht:P.underlying t=some (.slice E)) (hi:P.info? E=some i) (hz:i.zero=some z) (hsize:i.size=k) (hby:i.bytes=bytes) (hzs:z.cells.size=k) (hsz:0<k)
  {v:Value} {L:List Nat} {ds:List (List Dat)} (hD:OwnD w E k v L ds) {A:Option Addr} {m:Nat} {M:List Nat} {es:List (List Dat)} {news:List Value} (hS:Src w k A m M es news) (c:Nat) (hs:a.eval s=v) (hx:a.eval x=.slice A m c)
  (hLM:∀b,Blk v L b→b∉M) (hlen:(ds.length+m)*bytes≤140737488355328) (hmax:ds.length+m≤maxLen)
  (h:∀v' w',OwnD w' E k v' (L++M) (ds++es)→w.grownBy w' v.ownBlock→(∀b,v'.ownBlock=some b→v.ownBlock=some b∨w.heap.size≤b)→wpList P ops Q rest (a.put o.dst v') w'):wpList P ops Q (o :: rest) a w :=
 wpList_plain hg fun K hK=>wp_append_D s x t ho E i z k bytes ht hi hz hsize hby hzs hsz hD hS c hs hx hLM hlen hmax fun v' w' h1 h2 h3=>hK _ _ (h v' w' h1 h2 h3)
theorem OffS.via {S S':Nat→Prop} {a b c:World} (h:OffS S a b) (k:OffS S' b c) (hS:∀x,S x→x<a.heap.size→S' x):OffS S a c :=
 ⟨k.os.trans h.os,k.tape.trans h.tape,k.output.trans h.output,Nat.le_trans h.size k.size,fun i hi hl=>(k.block i (hS i hi hl) (Nat.lt_of_lt_of_le hl h.size)).trans (h.block i hi hl)⟩
end Go.Proofs.YtoikhhnmbbbjjaaDoor
namespace Go.Proofs.YtoikhhnmbbbjjaaDoor
set_option linter.unusedVariables false
set_option linter.unusedSimpArgs false
set_option maxRecDepth 100000
open Go.RowKit
theorem digT_zero (f:Nat) (t:ByteArray):digT f 0 t=t:=by cases f <;> simp[digT]
theorem digT_pos (f m:Nat) (t:ByteArray) (h:m≠0):digT (f+1) m t=digT f (m / 10) (⟨#[UInt8.ofNat (48+m % 10)]⟩++t):=by rw[digT,if_neg h]
def DigRel (K m f:Nat) (t:ByteArray):Prop:=digT f m t=digT 64 K ByteArray.empty∧m<10 ^ f∧t.size+f≤64∧m<9223372036854775808
theorem DigRel.start {K:Nat} (h:K<9223372036854775808):DigRel K K 64 ByteArray.empty:=⟨rfl,Nat.lt_of_lt_of_le h (by decide),by decide,h⟩
theorem DigRel.next {K m f:Nat} {t:ByteArray} (h:DigRel K m f t) (hm:m≠0):∃f',DigRel K (m / 10) f' (⟨#[UInt8.ofNat (48+m % 10)]⟩++t):=by
 obtain⟨h1,h2,h3,h4⟩:=h
 cases f with
 | zero=>simp at h2;omega
 | succ f =>
  refine⟨f,by rw[←digT_pos f m t hm];exact h1,?_,?_,by omega⟩
  ·
   rw[Nat.pow_succ]at h2
   exact Nat.div_lt_of_lt_mul (by rw[Nat.mul_comm];exact h2)
  ·
   have e:((⟨#[UInt8.ofNat (48+m % 10)]⟩:ByteArray)++t).size=1+t.size:=by rw[ByteArray.size_append];rfl
   omega
theorem DigRel.done {K f:Nat} {t:ByteArray} (h:DigRel K 0 f t):digT 64 K ByteArray.empty=t:=by rw[←h.1,digT_zero]
end Go.Proofs.YtoikhhnmbbbjjaaDoor
