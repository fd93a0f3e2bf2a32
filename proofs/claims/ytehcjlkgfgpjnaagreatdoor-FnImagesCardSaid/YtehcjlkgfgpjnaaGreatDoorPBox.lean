/- A box of six cells of the call's own (a result), kept through calls and stores; a world under one name. -/
import Derived.Test.YtehcjlkgfgpjnaaGreatDoorPr
import Derived.Test.YtehcjlkgfgpjnaaGreatDoorPB
import Derived.Deep.Cut
import Derived.Test.YtehcjlkgfgpjnaaGreatDoorPOw
import Derived.Test.YtehcjlkgfgpjnaaGreatDoorPNb
import Derived.Deep.MidRow
import Derived.Test.YtehcjlkgfgpjnaaGreatDoorPMStringS
namespace Go.Proofs.YtehcjlkgfgpjnaaGreatDoor
set_option linter.unusedVariables false
set_option linter.unusedSimpArgs false
set_option maxRecDepth 100000
open Go.RowKit
def Z6 (w:World) (b:Nat):Prop:=w.cell? ⟨b,0,none⟩=some (.int .i64 0)∧w.cell? ⟨b,1,none⟩=some (.int .i64 0)∧w.cell? ⟨b,2,none⟩=some (.int .i64 0)∧w.cell? ⟨b,3,none⟩=some (.string ByteArray.empty)∧w.cell? ⟨b,4,none⟩=some (.int .i64 0)∧w.cell? ⟨b,5,none⟩=some (.int .i64 0)∧(∀o,w.frozen? ⟨b,o,none⟩=false)∧b<w.heap.size
theorem Z6.on {w w':World} {b:Nat} (h:Z6 w b) (hb:Bel w w'):Z6 w' b:=by
 obtain⟨c0,c1,c2,c3,c4,c5,f,l⟩:=h
 exact⟨(hb.box b l 0).trans c0,(hb.box b l 1).trans c1,(hb.box b l 2).trans c2,(hb.box b l 3).trans c3,(hb.box b l 4).trans c4,(hb.box b l 5).trans c5,fun o=>(hb.boxf b l o).trans (f o),Nat.lt_of_lt_of_le l hb.size⟩
theorem Z6.new {w:World} {t:TypeId}:Z6 (w.alloc (.cells #[.int .i64 0,.int .i64 0,.int .i64 0,.string ByteArray.empty,.int .i64 0,.int .i64 0] t)) w.heap.size :=
 ⟨by simp,by simp,by simp,by simp,by simp,by simp,fun o=>by simp,by simp⟩
def put6 (w:World) (b:Nat) (x0 x1 x2 x3 x4 x5:Value):World:=(((((w.setCell ⟨b,0,none⟩ x0).setCell ⟨b,1,none⟩ x1).setCell ⟨b,2,none⟩ x2).setCell ⟨b,3,none⟩ x3).setCell ⟨b,4,none⟩ x4).setCell ⟨b,5,none⟩ x5
theorem Z6.put {w:World} {b:Nat} (h:Z6 w b) (x0 x1 x2 x3 x4 x5:Value) :
  (put6 w b x0 x1 x2 x3 x4 x5).cell? ⟨b,0,none⟩=some x0∧(put6 w b x0 x1 x2 x3 x4 x5).cell? ⟨b,1,none⟩=some x1∧(put6 w b x0 x1 x2 x3 x4 x5).cell? ⟨b,2,none⟩=some x2∧(put6 w b x0 x1 x2 x3 x4 x5).cell? ⟨b,3,none⟩=some x3∧(put6 w b x0 x1 x2 x3 x4 x5).cell? ⟨b,4,none⟩=some x4∧(put6 w b x0 x1 x2 x3 x4 x5).cell? ⟨b,5,none⟩=some x5:=by
 obtain⟨c0,c1,c2,c3,c4,c5,f,l⟩:=h
 have n:∀i j:Nat,i≠j→(⟨b,i,none⟩:Addr)≠⟨b,j,none⟩:=fun i j h e=>h (by injection e)
 unfold put6
 refine⟨?_,?_,?_,?_,?_,?_⟩
 ·
  rw[World.cell?_setCell_other (h:=n 5 0 (by decide)),World.cell?_setCell_other (h:=n 4 0 (by decide)),World.cell?_setCell_other (h:=n 3 0 (by decide)),World.cell?_setCell_other (h:=n 2 0 (by decide)),World.cell?_setCell_other (h:=n 1 0 (by decide)),World.cell?_setCell_same (h:=c0)]
 ·
  rw[World.cell?_setCell_other (h:=n 5 1 (by decide)),World.cell?_setCell_other (h:=n 4 1 (by decide)),World.cell?_setCell_other (h:=n 3 1 (by decide)),World.cell?_setCell_other (h:=n 2 1 (by decide)),World.cell?_setCell_same (u:=.int .i64 0) (h:=by rw[World.cell?_setCell_other (h:=n 0 1 (by decide))];exact c1)]
 ·
  rw[World.cell?_setCell_other (h:=n 5 2 (by decide)),World.cell?_setCell_other (h:=n 4 2 (by decide)),World.cell?_setCell_other (h:=n 3 2 (by decide)),World.cell?_setCell_same (u:=.int .i64 0) (h:=by rw[World.cell?_setCell_other (h:=n 1 2 (by decide)),World.cell?_setCell_other (h:=n 0 2 (by decide))];exact c2)]
 ·
  rw[World.cell?_setCell_other (h:=n 5 3 (by decide)),World.cell?_setCell_other (h:=n 4 3 (by decide)),World.cell?_setCell_same (u:=.string ByteArray.empty) (h:=by rw[World.cell?_setCell_other (h:=n 2 3 (by decide)),World.cell?_setCell_other (h:=n 1 3 (by decide)),World.cell?_setCell_other (h:=n 0 3 (by decide))];exact c3)]
 ·
  rw[World.cell?_setCell_other (h:=n 5 4 (by decide)),World.cell?_setCell_same (u:=.int .i64 0) (h:=by rw[World.cell?_setCell_other (h:=n 3 4 (by decide)),World.cell?_setCell_other (h:=n 2 4 (by decide)),World.cell?_setCell_other (h:=n 1 4 (by decide)),World.cell?_setCell_other (h:=n 0 4 (by decide))];exact c4)]
 ·
  rw[World.cell?_setCell_same (u:=.int .i64 0) (h:=by rw[World.cell?_setCell_other (h:=n 4 5 (by decide)),World.cell?_setCell_other (h:=n 3 5 (by decide)),World.cell?_setCell_other (h:=n 2 5 (by decide)),World.cell?_setCell_other (h:=n 1 5 (by decide)),World.cell?_setCell_other (h:=n 0 5 (by decide))];exact c5)]
theorem Bel.put6 {w0 w:World} (h:Bel w0 w) {b:Nat} (hb:w0.heap.size≤b) (x0 x1 x2 x3 x4 x5:Value):Bel w0 (put6 w b x0 x1 x2 x3 x4 x5) :=
 Bel.set (Bel.set (Bel.set (Bel.set (Bel.set (Bel.set h hb x0) hb x1) hb x2) hb x3) hb x4) hb x5
theorem gen_ret6 {P:Program} {fn:Func} {Q:Ending→World→Prop} {ex:Exit} {a:Act} {w:World} {b:Nat} {x0 x1 x2 x3 x4 x5:Value} (h:Z6 w b)
  (H:∀w',w'.cell? ⟨b,0,none⟩=some x0→w'.cell? ⟨b,1,none⟩=some x1→w'.cell? ⟨b,2,none⟩=some x2→w'.cell? ⟨b,3,none⟩=some x3→w'.cell? ⟨b,4,none⟩=some x4→w'.cell? ⟨b,5,none⟩=some x5→(∀w0,Bel w0 w→w0.heap.size≤b→Bel w0 w')→bodyPost P fn Q ex a w') :
  bodyPost P fn Q ex a ((((((w.setCell ⟨b,0,none⟩ x0).setCell ⟨b,1,none⟩ x1).setCell ⟨b,2,none⟩ x2).setCell ⟨b,3,none⟩ x3).setCell ⟨b,4,none⟩ x4).setCell ⟨b,5,none⟩ x5):=by
 obtain⟨d0,d1,d2,d3,d4,d5⟩:=h.put x0 x1 x2 x3 x4 x5
 exact H _ d0 d1 d2 d3 d4 d5 fun w0 h0 hb=>Bel.put6 h0 hb x0 x1 x2 x3 x4 x5
end Go.Proofs.YtehcjlkgfgpjnaaGreatDoor
namespace Go.Proofs.YtehcjlkgfgpjnaaGreatDoor
set_option linter.unusedVariables false
set_option linter.unusedSimpArgs false
set_option maxRecDepth 100000
open Go.RowKit
structure Ent where
 E:TypeId
 k:Nat
 v:Value
 L:List Nat
 ds:List (List Dat)
structure Ents (N:Nat) (w:World) (l:List Ent):Prop where
 own:∀e∈l,OwnD w e.E e.k e.v e.L e.ds
 low:∀e∈l,∀b,Blk e.v e.L b→N≤b
 sep:l.Pairwise (fun e f=>∀b,Blk e.v e.L b→¬Blk f.v f.L b)
section
variable {N:Nat} {w w':World} {l:List Ent}
theorem Ents.nil (N:Nat) (w:World):Ents N w []:=⟨(fun _ h=>(by cases h)),(fun _ h=>(by cases h)),List.Pairwise.nil⟩
theorem Ents.keep (h:Ents N w l) (hs:w.heap.size≤w'.heap.size) (hb:∀e∈l,∀b,Blk e.v e.L b→w'.heap[b]?=w.heap[b]?):Ents N w' l :=
 ⟨fun e he=>(h.own e he).keep hs (hb e he),h.low,h.sep⟩
theorem Ents.bel (h:Ents N w l) (hb:Bel w w'):Ents N w' l:=h.keep hb.size fun e he b hm=>Below.block hb b ((h.own e he).lt b hm)
theorem Ents.far (h:Ents N w l) {b:Nat} (hb:b<N) (o:Nat) (u:Value):Ents N (w.setCell ⟨b,o,none⟩ u) l:=by
 refine h.keep (by simp) fun e he x hx=>?_
 have hn:b≠x:=by have:=h.low e he x hx;omega
 unfold World.setCell
 split
 all_goals
  show (w.heap.modify b _)[x]?=_
  rw[Array.getElem?_modify,if_neg hn]
theorem Ents.snoc (h:Ents N w l) (hb:Bel w w') {e:Ent} (ho:OwnD w' e.E e.k e.v e.L e.ds) (hN:N≤w.heap.size) (hn:∀b,Blk e.v e.L b→w.heap.size≤b):Ents N w' (l++[e]):=by
 have h':=h.bel hb
 refine⟨fun f hf=>?_,fun f hf=>?_,List.pairwise_append.2 ⟨h.sep,List.pairwise_singleton _ _,fun f hf g hg b hb hc=>?_⟩⟩
 ·
  rcases List.mem_append.1 hf with hf | hf
  ·
   exact h'.own f hf
  ·
   rw[List.mem_singleton.1 hf];exact ho
 ·
  rcases List.mem_append.1 hf with hf | hf
  ·
   exact h.low f hf
  ·
   rw[List.mem_singleton.1 hf];exact fun b hb=>Nat.le_trans hN (hn b hb)
 ·
  rw[List.mem_singleton.1 hg]at hc
  have h1:=(h.own f hf).lt b hb
  have h2:=hn b hc
  omega
theorem Ents.grow {e e':Ent} (h:Ents N w (l++[e])) {wm:World} (hm:Bel w wm) (hg:wm.grownBy w' e.v.ownBlock) (hN:N≤w.heap.size) (ho:OwnD w' e'.E e'.k e'.v e'.L e'.ds) (hn:∀b,Blk e'.v e'.L b→Blk e.v e.L b∨w.heap.size≤b):Ents N w' (l++[e']):=by
 have hp:=List.pairwise_append.1 h.sep
 have low:∀b,Blk e'.v e'.L b→N≤b:=fun b hb=>(hn b hb).elim (fun q=>h.low e (by simp) b q) (fun q=>Nat.le_trans hN q)
 have sep:∀f∈l,∀b,Blk f.v f.L b→¬Blk e.v e.L b:=fun f hf=>hp.2.2 f hf e (by simp)
 refine⟨fun f hf=>?_,fun f hf=>?_,List.pairwise_append.2 ⟨hp.1,List.pairwise_singleton _ _,fun f hf g hg b hb hc=>?_⟩⟩
 ·
  rcases List.mem_append.1 hf with hf | hf
  ·
   refine (h.own f (by simp[hf])).keep (Nat.le_trans hm.size hg.size) fun b hb=>?_
   have hl:=(h.own f (by simp[hf])).lt b hb
   exact (hg.block b (Nat.lt_of_lt_of_le hl hm.size) (fun q=>sep f hf b hb (Or.inl q.symm))).trans (Below.block hm b hl)
  ·
   rw[List.mem_singleton.1 hf];exact ho
 ·
  rcases List.mem_append.1 hf with hf | hf
  ·
   exact h.low f (by simp[hf])
  ·
   rw[List.mem_singleton.1 hf];exact low
 ·
  rw[List.mem_singleton.1 hg]at hc
  rcases hn b hc with q | q
  ·
   exact sep f hf b hb q
  ·
   have:=(h.own f (by simp[hf])).lt b hb
   omega
theorem Ents.at (h:Ents N w l) {i:Nat} {e:Ent} (he:l[i]?=some e):OwnD w e.E e.k e.v e.L e.ds:=h.own e (List.mem_of_getElem? he)
theorem OwnD.blk_nil {b:Nat} (h:Blk (.slice none 0 0) [] b):False:=by
 rcases h with h | h <;> cases h
end
end Go.Proofs.YtehcjlkgfgpjnaaGreatDoor
namespace Go.Proofs.YtehcjlkgfgpjnaaGreatDoor
set_option linter.unusedVariables false
set_option linter.unusedSimpArgs false
set_option maxRecDepth 100000
open Go.RowKit
theorem Ents.growAt {N:Nat} {w w' wm:World} {la lb:List Ent} {e e':Ent} (h:Ents N w (la++e :: lb)) (hm:Bel w wm) (hg:wm.grownBy w' e.v.ownBlock) (ho:OwnD w' e'.E e'.k e'.v e'.L e'.ds)
  (hn:∀b,Blk e'.v e'.L b→Blk e.v e.L b∨(N≤b∧∀f,f∈la++lb→¬Blk f.v f.L b)):Ents N w' (la++e' :: lb):=by
 have hp:=List.pairwise_append.1 h.sep
 have hq:=List.pairwise_cons.1 hp.2.1
 have sa:∀f∈la,∀b,Blk f.v f.L b→¬Blk e.v e.L b:=fun f hf=>hp.2.2 f hf e (by simp)
 have sb:∀f∈lb,∀b,Blk e.v e.L b→¬Blk f.v f.L b:=fun f hf=>hq.1 f hf
 have hin:∀f,f∈la++lb→f∈la++e :: lb:=fun f hf=>by
  rcases List.mem_append.1 hf with hf | hf
  ·
   exact List.mem_append.2 (Or.inl hf)
  ·
   exact List.mem_append.2 (Or.inr (List.mem_cons_of_mem _ hf))
 have sep:∀f,f∈la++lb→∀b,Blk f.v f.L b→¬Blk e.v e.L b:=fun f hf b hb he=>by
  rcases List.mem_append.1 hf with hf | hf
  ·
   exact sa f hf b hb he
  ·
   exact sb f hf b he hb
 have low:∀b,Blk e'.v e'.L b→N≤b:=fun b hb=>(hn b hb).elim (fun q=>h.low e (by simp) b q) (fun q=>q.1)
 have keep:∀f,f∈la++lb→OwnD w' f.E f.k f.v f.L f.ds:=fun f hf=>by
  refine (h.own f (hin f hf)).keep (Nat.le_trans hm.size hg.size) fun b hb=>?_
  have hl:=(h.own f (hin f hf)).lt b hb
  exact (hg.block b (Nat.lt_of_lt_of_le hl hm.size) (fun q=>sep f hf b hb (Or.inl q.symm))).trans (Below.block hm b hl)
 have apart:∀f,f∈la++lb→∀b,Blk f.v f.L b→¬Blk e'.v e'.L b:=fun f hf b hb hc=>by
  rcases hn b hc with q | q
  ·
   exact sep f hf b hb q
  ·
   exact q.2 f hf hb
 have cases3:∀f,f∈la++e' :: lb→f∈la++lb∨f=e':=fun f hf=>by
  rcases List.mem_append.1 hf with hf | hf
  ·
   exact Or.inl (List.mem_append.2 (Or.inl hf))
  ·
   rcases List.mem_cons.1 hf with hf | hf
   ·
    exact Or.inr hf
   ·
    exact Or.inl (List.mem_append.2 (Or.inr hf))
 refine⟨fun f hf=>?_,fun f hf=>?_,List.pairwise_append.2 ⟨hp.1,List.pairwise_cons.2 ⟨fun f hf b hb hc=>?_,hq.2⟩,fun f hf g hg b hb hc=>?_⟩⟩
 ·
  rcases cases3 f hf with hf | rfl
  ·
   exact keep f hf
  ·
   exact ho
 ·
  rcases cases3 f hf with hf | rfl
  ·
   exact h.low f (hin f hf)
  ·
   exact low
 ·
  exact apart f (List.mem_append.2 (Or.inr hf)) b hc hb
 ·
  rcases List.mem_cons.1 hg with rfl | hg
  ·
   exact apart f (List.mem_append.2 (Or.inl hf)) b hb hc
  ·
   exact hp.2.2 f hf g (List.mem_cons_of_mem _ hg) b hb hc
end Go.Proofs.YtehcjlkgfgpjnaaGreatDoor
namespace Go.Proofs.YtehcjlkgfgpjnaaGreatDoor
set_option linter.unusedVariables false
set_option linter.unusedSimpArgs false
set_option maxRecDepth 100000
open Go.RowKit
theorem infoObj:(Tryz.prog.info? 98).map (fun i=>(i.zero,i.size,i.bytes))=some (some (.agg #[.int .i64 0,.int .i64 0,.int .i64 0,.slice none 0 0,.slice none 0 0]),5,72):=by kernel_rfl
structure ClS (w:World) (N:Nat) (wx:World) (b:Nat) (v0 v1 v2 v3 v4 v5 v6 v7 v8 v9 v10 v11 v12:Value) (l:List Ent):Prop where
 box:SB wx b v0 v1 v2 v3 v4 v5 v6 v7 v8 v9 v10 v11 v12
 ents:Ents N wx l
 bel:Bel w wx
 low:w.heap.size≤b∧b<N∧N≤wx.heap.size
section
variable {w wx wy:World} {N b:Nat} {v0 v1 v2 v3 v4 v5 v6 v7 v8 v9 v10 v11 v12:Value} {l:List Ent}
theorem ClS.on (h:ClS w N wx b v0 v1 v2 v3 v4 v5 v6 v7 v8 v9 v10 v11 v12 l) (k:Bel wx wy):ClS w N wy b v0 v1 v2 v3 v4 v5 v6 v7 v8 v9 v10 v11 v12 l:=⟨h.box.on k,h.ents.bel k,h.bel.trans k,h.low.1,h.low.2.1,Nat.le_trans h.low.2.2 k.size⟩
end
end Go.Proofs.YtehcjlkgfgpjnaaGreatDoor
namespace Go.Proofs.YtehcjlkgfgpjnaaGreatDoor
set_option linter.unusedVariables false
set_option linter.unusedSimpArgs false
set_option maxRecDepth 100000
open Go.RowKit
def OB (w:World) (b:Nat) (v0 v1 v2 v3 v4:Value):Prop:=b<w.heap.size∧(∀o,w.frozen? ⟨b,o,none⟩=false)∧w.cell? ⟨b,0,none⟩=some v0∧w.cell? ⟨b,1,none⟩=some v1∧w.cell? ⟨b,2,none⟩=some v2∧w.cell? ⟨b,3,none⟩=some v3∧w.cell? ⟨b,4,none⟩=some v4
section
variable {w w':World} {b:Nat} {v0 v1 v2 v3 v4:Value}
theorem OB.block (h:OB w b v0 v1 v2 v3 v4) (hs:w.heap.size≤w'.heap.size) (hb:w'.heap[b]?=w.heap[b]?):OB w' b v0 v1 v2 v3 v4:=by
 obtain⟨l,f,c0,c1,c2,c3,c4⟩:=h
 have e:∀o,w'.cell? ⟨b,o,none⟩=w.cell? ⟨b,o,none⟩:=fun o=>World.cell?_of_block hb
 exact⟨by omega,fun o=>(World.frozen?_of_block hb).trans (f o),(e 0).trans c0,(e 1).trans c1,(e 2).trans c2,(e 3).trans c3,(e 4).trans c4⟩
theorem OB.on (h:OB w b v0 v1 v2 v3 v4) (k:Bel w w'):OB w' b v0 v1 v2 v3 v4:=h.block k.size (Below.block k b h.1)
theorem OB.new (w:World) (t:TypeId):OB (w.alloc (.cells #[v0,v1,v2,v3,v4] t)) w.heap.size v0 v1 v2 v3 v4 :=
 ⟨by simp,fun o=>by simp,by simp,by simp,by simp,by simp,by simp⟩
theorem OB.put0 (h:OB w b v0 v1 v2 v3 v4) (u:Value):OB (w.setCell ⟨b,0,none⟩ u) b u v1 v2 v3 v4:=by
 exact rk124
theorem OB.put1 (h:OB w b v0 v1 v2 v3 v4) (u:Value):OB (w.setCell ⟨b,1,none⟩ u) b v0 u v2 v3 v4:=by
 exact rk124
theorem OB.put2 (h:OB w b v0 v1 v2 v3 v4) (u:Value):OB (w.setCell ⟨b,2,none⟩ u) b v0 v1 u v3 v4:=by
 exact rk124
theorem OB.put3 (h:OB w b v0 v1 v2 v3 v4) (u:Value):OB (w.setCell ⟨b,3,none⟩ u) b v0 v1 v2 u v4:=by
 exact rk124
theorem OB.put4 (h:OB w b v0 v1 v2 v3 v4) (u:Value):OB (w.setCell ⟨b,4,none⟩ u) b v0 v1 v2 v3 u:=by
 exact rk124
end
structure ClF (w:World) (N:Nat) (wx:World) (b q r:Nat) (v0 v1 v2 v3 v4 v5 v6 v7 v8 v9 v10 v11 v12:Value) (s0 s1 s2 s3 s4 s5 s6 s7 s8 s9 s10 s11 s12:Value) (l:List Ent):Prop where
 cl:ClS w N wx b v0 v1 v2 v3 v4 v5 v6 v7 v8 v9 v10 v11 v12 l
 sb:SB wx q s0 s1 s2 s3 s4 s5 s6 s7 s8 s9 s10 s11 s12
 rb:SB wx r (.slice none 0 0) (.slice none 0 0) (.slice none 0 0) (.slice none 0 0) (.string ByteArray.empty) (.int .i64 0) (.slice none 0 0) (.slice none 0 0) (.slice none 0 0) (.bool false) (.int .i64 0) (.int .i64 0) (.int .i64 0)
 ne:q≠b∧r≠b∧q<N∧r<N∧w.heap.size≤r
section
variable {w wx wy:World} {N b q r:Nat} {v0 v1 v2 v3 v4 v5 v6 v7 v8 v9 v10 v11 v12 s0 s1 s2 s3 s4 s5 s6 s7 s8 s9 s10 s11 s12:Value} {l:List Ent} {e:Ent}
theorem ClF.on (h:ClF w N wx b q r v0 v1 v2 v3 v4 v5 v6 v7 v8 v9 v10 v11 v12 s0 s1 s2 s3 s4 s5 s6 s7 s8 s9 s10 s11 s12 l) (k:Bel wx wy):ClF w N wy b q r v0 v1 v2 v3 v4 v5 v6 v7 v8 v9 v10 v11 v12 s0 s1 s2 s3 s4 s5 s6 s7 s8 s9 s10 s11 s12 l:=⟨h.cl.on k,h.sb.on k,h.rb.on k,h.ne⟩
theorem ClF.grow (h:ClF w N wx b q r v0 v1 v2 v3 v4 v5 v6 v7 v8 v9 v10 v11 v12 s0 s1 s2 s3 s4 s5 s6 s7 s8 s9 s10 s11 s12 (l++[e])) {wm:World} (hm:Bel wx wm) (hg:wm.grownBy wy e.v.ownBlock) {e':Ent} (ho:OwnD wy e'.E e'.k e'.v e'.L e'.ds) (hn:∀x,Blk e'.v e'.L x→Blk e.v e.L x∨wx.heap.size≤x) :
  SB wy b v0 v1 v2 v3 v4 v5 v6 v7 v8 v9 v10 v11 v12∧∀(o:Nat) (u:Value) {u0 u1 u2 u3 u4 u5 u6 u7 u8 u9 u10 u11 u12:Value},SB (wy.setCell ⟨b,o,none⟩ u) b u0 u1 u2 u3 u4 u5 u6 u7 u8 u9 u10 u11 u12→ClF w N (wy.setCell ⟨b,o,none⟩ u) b q r u0 u1 u2 u3 u4 u5 u6 u7 u8 u9 u10 u11 u12 s0 s1 s2 s3 s4 s5 s6 s7 s8 s9 s10 s11 s12 (l++[e']):=by
 have hlow:∀k,e.v.ownBlock=some k→N≤k:=fun k hk=>h.cl.ents.low e (by simp) k (Or.inl hk)
 have hN:=h.cl.low
 have hs:=hm.size
 have hgs:=hg.size
 have old:∀k,k<N→k<wx.heap.size→wy.heap[k]?=wx.heap[k]?:=fun k hk hl=>(hg.block k (by omega) (fun q=>by have:=hlow k q.symm;omega)).trans (Below.block hm k hl)
 have hbl:=h.cl.box.1
 have hql:=h.sb.1
 have hrl:=h.rb.1
 have B9:=h.cl.box.block (by omega) (old b hN.2.1 hbl)
 have hB:Bel w wy:=⟨hg.os.trans (hm.os.trans h.cl.bel.os),hg.tape.trans (hm.tape.trans h.cl.bel.tape),hg.output.trans (hm.output.trans h.cl.bel.output),by have:=h.cl.bel.size;omega,fun k hk=>(old k (by omega) (by omega)).trans (Below.block h.cl.bel k hk)⟩
 refine⟨B9,fun o u _ _ _ _ _ _ _ _ _ _ _ _ _ hbx=>⟨⟨hbx,(h.cl.ents.grow hm hg hN.2.2 ho hn).far hN.2.1 o u,Below.setCell hB hN.1 u,hN.1,hN.2.1,by simp only[World.size_setCell];omega⟩,(h.sb.block (by omega) (old q h.ne.2.2.1 hql)).far o u (fun e=>h.ne.1 e.symm),(h.rb.block (by omega) (old r h.ne.2.2.2.1 hrl)).far o u (fun e=>h.ne.2.1 e.symm),h.ne⟩⟩
end
def TObject.its:TObject→List TValue | .mk _ _ _ i _=>i
def TObject.kys:TObject→List TValue | .mk _ _ _ _ k=>k
end Go.Proofs.YtehcjlkgfgpjnaaGreatDoor
namespace Go.Proofs.YtehcjlkgfgpjnaaGreatDoor
set_option linter.unusedVariables false
set_option linter.unusedSimpArgs false
set_option maxRecDepth 100000
open Go.RowKit
def KpN (N:Nat) (wa wb:World):Prop:=wa.heap.size≤wb.heap.size∧∀k,N≤k→k<wa.heap.size→wb.heap[k]?=wa.heap[k]?
theorem kpn_bel {N:Nat} {wa wb:World} (h:Bel wa wb):KpN N wa wb:=⟨h.size,fun k _ hl=>Below.block h k hl⟩
theorem KpN.obj {N g:Nat} {wa wb:World} {o:Obj} (h:KpN N wa wb) (hN:N≤g) (hg:wa.heap[g]?=some o):wb.heap[g]?=some o:=(h.2 g hN (Array.getElem?_eq_some_iff.1 hg).1).trans hg
theorem grown_bel {wm wq wz:World} {r:Option Nat} (h:wm.grownBy wq r) (k:Bel wq wz):wm.grownBy wz r :=
 ⟨k.os.trans h.os,k.tape.trans h.tape,k.output.trans h.output,Nat.le_trans h.size k.size,fun i hi hr=>(Below.block k i (Nat.lt_of_lt_of_le hi h.size)).trans (h.block i hi hr)⟩
end Go.Proofs.YtehcjlkgfgpjnaaGreatDoor
namespace Go.Proofs.YtehcjlkgfgpjnaaGreatDoor
set_option linter.unusedVariables false
set_option linter.unusedSimpArgs false
set_option maxRecDepth 100000
open Go.RowKit
structure MkS (N:Nat) (w:World) (q:Nat) (v0 v1 v2 v3 v4 v5 v6 v7 v8 v9 v10 v11 v12:Value) (la lb:List Ent) (L:List Nat) (ds:List (List Dat)):Prop where
 box:SB w q v0 v1 v2 v3 v4 v5 v6 v7 v8 v9 v10 v11 v12
 ents:Ents N w (la++⟨98,5,v2,L,ds⟩ :: lb)
 low:∀f,f∈la++⟨98,5,v2,L,ds⟩ :: lb→¬Blk f.v f.L q
theorem Ents.far2 {N:Nat} {w:World} {l:List Ent} (h:Ents N w l) {b:Nat} (hb:∀f,f∈l→¬Blk f.v f.L b) (o:Nat) (u:Value):Ents N (w.setCell ⟨b,o,none⟩ u) l :=
 h.keep (by simp) fun e he x hx=>set_block o u (fun q=>hb e he (q▸hx))
theorem MkS.on {N:Nat} {w w':World} {q:Nat} {v0 v1 v2 v3 v4 v5 v6 v7 v8 v9 v10 v11 v12:Value} {la lb:List Ent} {L:List Nat} {ds:List (List Dat)} (h:MkS N w q v0 v1 v2 v3 v4 v5 v6 v7 v8 v9 v10 v11 v12 la lb L ds) (k:Bel w w'):MkS N w' q v0 v1 v2 v3 v4 v5 v6 v7 v8 v9 v10 v11 v12 la lb L ds:=⟨h.box.on k,h.ents.bel k,h.low⟩
theorem low_grow {q:Nat} {v2 y:Value} {la lb:List Ent} {L M:List Nat} {ds:List (List Dat)} {d:List Dat} (h:∀f,f∈la++⟨98,5,v2,L,ds⟩ :: lb→¬Blk f.v f.L q) (hy:y.ownBlock=some q→v2.ownBlock=some q) (hM:¬q∈M):∀f,f∈la++⟨98,5,y,L++M,ds++[d]⟩ :: lb→¬Blk f.v f.L q:=by
 intro f hf hc
 rcases List.mem_append.1 hf with hf | hf
 ·
  exact h f (List.mem_append.2 (Or.inl hf)) hc
 ·
  rcases List.mem_cons.1 hf with rfl | hf
  ·
   rcases hc with hc | hc
   ·
    exact h _ (List.mem_append.2 (Or.inr (List.mem_cons_self ..))) (Or.inl (hy hc))
   ·
    rcases List.mem_append.1 hc with hc | hc
    ·
     exact h _ (List.mem_append.2 (Or.inr (List.mem_cons_self ..))) (Or.inr hc)
    ·
     exact hM hc
  ·
   exact h f (List.mem_append.2 (Or.inr (List.mem_cons_of_mem _ hf))) hc
def MadeP (N:Nat) (w:World) (q:Nat) (v0 v1 v2 v3 v4 v5 v6 v7 v8 v9 v10 v11 v12 u12:Value) (la lb:List Ent) (L M:List Nat) (ds:List (List Dat)) (d:List Dat) (r:Value) (e:Ending) (w':World):Prop :=
 ∃y,e=.returned r∧MkS N w' q v0 v1 y v3 v4 v5 v6 v7 v8 v9 v10 v11 u12 la lb (L++M) (ds++[d])∧(w'.os=w.os∧w'.tape=w.tape∧w'.output=w.output∧w.heap.size≤w'.heap.size)∧(∀b,y.ownBlock=some b→v2.ownBlock=some b∨w.heap.size≤b)∧∀k,k<w.heap.size→k≠q→v2.ownBlock≠some k→w'.heap[k]?=w.heap[k]?
end Go.Proofs.YtehcjlkgfgpjnaaGreatDoor
namespace Go.Proofs.YtehcjlkgfgpjnaaGreatDoor
set_option linter.unusedVariables false
set_option linter.unusedSimpArgs false
set_option maxRecDepth 100000
open Go.RowKit
set_option maxHeartbeats 4000000 in
theorem l13New_any (kk mm nm:Int) (hnm:IntKind.i64.wrap (mm+1)=nm) (hk1:2≤kk) (hk2:kk≤7) (N:Nat) (w:World) (q:Nat) (v0 v1 v2 v3 v4 v5 v6 v7 v8 v9 v10 v11:Value) (la lb:List Ent) (L M:List Nat) (ds:List (List Dat)) (d:List Dat) (o1 o2 o3 o4:Value) (h:MkS N w q v0 v1 v2 v3 v4 v5 v6 v7 v8 v9 v10 v11 (.int .i64 mm) la lb L ds) (hd:Dat.OwnVals w M d [.int .i64 kk,o1,.int .i64 nm,o3,o4]) (hoo:o2.oneCell'=true) (hn:M.Nodup) (hM:∀b,b∈M→N≤b∧b≠q∧∀f,f∈la++⟨98,5,v2,L,ds⟩ :: lb→¬Blk f.v f.L b) (hl:ds.length≤2097152) (hNw:N≤w.heap.size) :
  Calls Tryz.prog 108 #[.pointer (some ⟨q,0,none⟩),.agg #[.int .i64 kk,o1,o2,o3,o4]] w (MadeP N w q v0 v1 v2 v3 v4 v5 v6 v7 v8 v9 v10 v11 (.int .i64 mm) (.int .i64 nm) la lb L M ds d (.int .i64 (ds.length:Nat))):=by
 have HH0:=hide h
 have HD0:=hide hd
 have HN:=hide hn
 have HM:=hide hM
 have hqN:=h.low
 obtain⟨io,hio,zo0,zo1,zo2⟩:=info_parts infoObj
 clear h hd hn hM
 have dk1:decide (2≤kk)=true:=decide_eq_true hk1
 have dk2:decide (kk≤7)=true:=decide_eq_true hk2
 have hc1:=HD0.out.oneCell
 obtain⟨hlb,hfb,kb_0,kb_1,kb_2,kb_3,kb_4,kb_5,kb_6,kb_7,kb_8,kb_9,kb_10,kb_11,kb_12⟩:=HH0.out.box
 go_enter Tryz.func108,Tryz.ntmps108
 go_upto_region 4 with (fail)
 refine wp_named2 fun wr hwr=>?_
 clear hlb hfb kb_0 kb_1 kb_2 kb_3 kb_4 kb_5 kb_6 kb_7 kb_8 kb_9 kb_10 kb_11 kb_12 hc1
 obtain⟨w1,hw1⟩:∃x,w.setCell ⟨q,12,none⟩ (.int .i64 nm)=x:=⟨_,rfl⟩
 replace hwr:w1.alloc (.cells #[.int .i64 kk,o1,.int .i64 nm,o3,o4] 98)=wr:=by rw[←hw1];exact hwr
 have hB1:Below q w w1:=by rw[←hw1];exact Below.setCell (Below.refl q w) (show q≤(⟨q,12,none⟩:Addr).block from Nat.le_refl q) _
 have hz1:w1.heap.size=w.heap.size:=by rw[←hw1];simp
 have same1:∀k,k≠q→w1.heap[k]?=w.heap[k]?:=fun k hk=>by rw[←hw1];exact set_block 12 _ (fun e=>hk e.symm)
 have HS:=hide (show w1.heap.size=w.heap.size∧w1.os=w.os∧w1.tape=w.tape∧w1.output=w.output∧∀k,k≠q→w1.heap[k]?=w.heap[k]? from⟨hz1,hB1.os,hB1.tape,hB1.output,same1⟩)
 have HH:=hide (show MkS N w1 q v0 v1 v2 v3 v4 v5 v6 v7 v8 v9 v10 v11 (.int .i64 nm) la lb L ds from by rw[←hw1];exact⟨HH0.out.box.put12 _,HH0.out.ents.far2 hqN 12 _,hqN⟩)
 have HD:=hide (show Dat.OwnVals w1 M d [.int .i64 kk,o1,.int .i64 nm,o3,o4]from Dat.OwnVals.keep (by omega) _ _ _ (fun x hx=>⟨fun o=>World.cell?_of_block (same1 x (HM.out x hx).2.1),fun o=>World.frozen?_of_block (same1 x (HM.out x hx).2.1)⟩) HD0.out)
 replace hNw:N≤w1.heap.size:=by omega
 clear HH0 HD0 hB1 same1 hw1
 have HE:=hide (show OwnD w1 98 5 v2 L ds from HH.out.ents.own ⟨98,5,v2,L,ds⟩ (by simp))
 have hbr:Bel w1 wr:=by rw[←hwr];exact bl
 have OA:=hide (show OB wr w.heap.size (.int .i64 kk) o1 (.int .i64 nm) o3 o4 from by rw[←hwr];have h:=OB.new w1 98 (v0:=.int .i64 kk) (v1:=o1) (v2:=.int .i64 nm) (v3:=o3) (v4:=o4);rw[hz1]at h;exact h)
 clear hwr hz1
 refine wp_region_factsU (m:=10) (p:=7) (fun j=>match j with  | _=>[]) (fun j vf wq=>match j with | 0=>((vf 0)=.pointer (some ⟨q,0,none⟩)) | 1=>((vf 1)=.pointer (some ⟨q,0,none⟩)) | 2=>((vf 2)=.pointer (some ⟨q,0,none⟩)) | 3=>((vf 3)=.pointer (some ⟨q,2,none⟩)) | 4=>((vf 4)=v2) | 5=>((vf 5)=.agg #[.int .i64 kk,o1,.int .i64 nm,o3,o4]) | 6=>(∃g:Nat,(vf 6)=.slice (some ⟨g,0,none⟩) 1 1∧wr.heap.size≤g∧wq.heap[g]?=some (.cells #[.int .i64 kk,o1,.int .i64 nm,o3,o4] 98)) | 7=>(OwnD wq 98 5 (vf 7) (L++M) (ds++[d])∧∀b,Value.ownBlock (vf 7)=some b→v2.ownBlock=some b∨wr.heap.size≤b) | 8=>((vf 8)=.pointer (some ⟨q,0,none⟩)) | 9=>((vf 9)=.pointer (some ⟨q,2,none⟩)) | _=>True) (fun wa wb=>Bel wa wb) (fun wa wb=>KpN wr.heap.size wa wb) (fun wq=>MkS N wq q v0 v1 v2 v3 v4 v5 v6 v7 v8 v9 v10 v11 (.int .i64 nm) la lb L ds∧OB wq w.heap.size (.int .i64 kk) o1 (.int .i64 nm) o3 o4∧Dat.OwnVals wq M d [.int .i64 kk,o1,.int .i64 nm,o3,o4]∧Bel wr wq) (fun wq=>∃wm:World,Bel wr wm∧wm.grownBy wq v2.ownBlock) [(0,some 25),(1,some 26),(2,some 27),(3,some 28),(4,some 29),(5,some 30),(6,some 31),(7,some 32),(8,some 33),(9,some 34),(10,none)] rfl (by kernel_rfl) (by kernel_rfl) (by kernel_rfl) (by decide) ?hG ?hR ?hR2 ?hG0 ?hG1 rfl rfl ?hstep ?hp ?hlast
 case hG=>exact⟨HH.out.on (hbr.trans bl),OA.out.on bl,HD.out.bel (hbr.trans bl),bl⟩
 case hG0=>exact fun wa wb hk hg=>⟨hg.1.on hk,hg.2.1.on hk,hg.2.2.1.bel hk,hg.2.2.2.trans hk⟩
 case hG1=>exact fun wa wb hk hg=>by obtain⟨wm,h3,h4⟩:=hg;exact⟨wm,h3,grown_bel h4 hk⟩
 case hR =>
  exact rk169
 case hR2 =>
  exact rk173
 case hstep =>
  simp only[putP,Act.put,List.setIfInBounds_toArray,List.set_cons_zero,List.set_cons_succ,List.getElem_toArray,List.getElem_cons_zero,List.getElem_cons_succ]
  refine (stepsU_cons (i:=0) (i2:=1) (o:=_) rfl ?s0 (stepsU_cons (i:=1) (i2:=2) (o:=_) rfl ?s1 (stepsU_cons (i:=2) (i2:=3) (o:=_) rfl ?s2 (stepsU_cons (i:=3) (i2:=4) (o:=_) rfl ?s3 (stepsU_cons (i:=4) (i2:=5) (o:=_) rfl ?s4 (stepsU_cons (i:=5) (i2:=6) (o:=_) rfl ?s5 (stepsU_cons (i:=6) (i2:=7) (o:=_) rfl ?s6 (stepsU_skip (p:=7) (p2:=8) (stepsU_cons (i:=8) (i2:=9) (o:=_) rfl ?s8 (stepsU_cons (i:=9) (i2:=10) (o:=_) rfl ?s9 (stepsU_nil (by decide))))))))))))
  case s0 =>
   exact rk128
  case s1 =>
   exact rk128
  case s2 =>
   exact rk175
  case s3 =>
   exact rk176
  case s4 =>
   exact rk148
  case s5 =>
   exact rk179
  case s6 =>
   intro u wa hG hf K hK
   have g0:=g0_of hG (by kernel_rfl)
   have e5:(u 5)=.agg #[.int .i64 kk,o1,.int .i64 nm,o3,o4]:=fact_ofU hf 5 (by kernel_rfl)
   clear hf
   clear hG
   simp only[Act.put,List.setIfInBounds_toArray,List.set_cons_zero,List.set_cons_succ,List.getElem_toArray,List.getElem_cons_zero,List.getElem_cons_succ]at hK ⊢
   rw[e5]at hK ⊢
   have hz9:=Bel.size g0.2.2.2
   have hoc:=g0.2.2.1.oneCell
   have hbx:Bel wa (wa.alloc (.cells #[.int .i64 kk,o1,.int .i64 nm,o3,o4] 98)):=bl
   go_simp
   exact hK.out _ _ hbx ⟨wa.heap.size,rfl,hz9,heap_alloc_new _ _⟩
  case s8 =>
   exact rk177
  case s9 =>
   exact rk178
 case hp =>
  simp only[putP,Act.put,List.setIfInBounds_toArray,List.set_cons_zero,List.set_cons_succ,List.getElem_toArray,List.getElem_cons_zero,List.getElem_cons_succ]
  intro u wa hG hf K hK
  have e4:(u 4)=v2:=fact_ofU hf 4 (by kernel_rfl)
  have e6:∃g:Nat,(u 6)=.slice (some ⟨g,0,none⟩) 1 1∧wr.heap.size≤g∧wa.heap[g]?=some (.cells #[.int .i64 kk,o1,.int .i64 nm,o3,o4] 98):=fact_ofU hf 6 (by kernel_rfl)
  clear hf
  rw[e4]at hK ⊢
  obtain⟨g,e6,hg1,hg2⟩:=e6
  rw[e6]at hK ⊢
  have hold:OwnD wa 98 5 v2 L ds:=hG.1.ents.own ⟨98,5,v2,L,ds⟩ (by simp)
  have hz9:=Bel.size hG.2.2.2
  have hbz:=hbr.size
  have hlv:=HE.out.lt
  have hsr:Src wa 5 (some ⟨g,0,none⟩) 1 M [d] [.int .i64 kk,o1,.int .i64 nm,o3,o4]:=⟨rfl,(fun h=>(by cases h)),⟨M,[],[.int .i64 kk,o1,.int .i64 nm,o3,o4],[],by simp,by simp,rfl,hG.2.2.1,rfl,rfl⟩,HN.out,fun ad hA j u hu=>by obtain rfl:=Option.some.inj hA;rw[addr_add];unfold World.cell?;simp only[hg2];simpa using hu⟩
  refine wp_append_D (.tmp 29) (.tmp 31) 32 rfl 98 io (.agg #[.int .i64 0,.int .i64 0,.int .i64 0,.slice none 0 0,.slice none 0 0]) 5 72 Tryz.underlying32 hio zo0 zo1 zo2 (by decide) (by decide) hold hsr 1 rfl rfl (fun b hb hm=>(HM.out b hm).2.2 ⟨98,5,v2,L,ds⟩ (by simp) hb) (by omega) (by unfold maxLen;omega) (fun v9 w9 hO9 hg9 hw9=>?_)
  (try simp only[Act.put,List.setIfInBounds_toArray,List.set_cons_zero,List.set_cons_succ,List.getElem_toArray,List.getElem_cons_zero,List.getElem_cons_succ])
  exact hK.out _ _ ⟨hg9.size,fun k hk hl=>hg9.block k hl (fun e=>by have:=hlv k (Or.inl e.symm);omega)⟩ ⟨wa,hG.2.2.2,hg9⟩ ⟨hO9,fun b hb=>(hw9 b hb).imp id (fun e=>by omega)⟩
 case hlast =>
  simp only[putP,Act.put,List.setIfInBounds_toArray,List.set_cons_zero,List.set_cons_succ,List.getElem_toArray,List.getElem_cons_zero,List.getElem_cons_succ]
  intro u wa hG hf K hK
  have e7:OwnD wa 98 5 (u 7) (L++M) (ds++[d])∧∀b,Value.ownBlock (u 7)=some b→v2.ownBlock=some b∨wr.heap.size≤b:=hf 7 (by decide)
  have e9:u 9=.pointer (some ⟨q,2,none⟩):=hf 9 (by decide)
  clear hf
  obtain⟨hO,hbl⟩:=e7
  obtain⟨A9,c9,e7⟩:∃A9 c9,u 7=.slice A9 (ds.length+1) c9:=by obtain⟨A9,c9,L9,hv9,-⟩:=hO.ownRow;exact⟨A9,c9,by rw[hv9,List.length_append];rfl⟩
  rw[e7]at hO hbl hK ⊢
  rw[e9]at hK ⊢
  obtain⟨wm,h2,h3⟩:=hG
  have hbz:=hbr.size
  have hz2:=h2.size
  have hz3:=h3.size
  have hlow:∀b,v2.ownBlock=some b→N≤b:=fun b hb=>HH.out.ents.low ⟨98,5,v2,L,ds⟩ (by simp) b (Or.inl hb)
  have same:∀k,k<w1.heap.size→v2.ownBlock≠some k→wa.heap[k]?=w1.heap[k]?:=fun k hk hne=>((h3.block k (by omega) (fun e=>hne e.symm)).trans (Below.block h2 k (by omega))).trans (Below.block hbr k hk)
  have BX:=HH.out.box.block (w':=wa) (by omega) (same q (by have:=HH.out.box.1;omega) (fun e=>hqN ⟨98,5,v2,L,ds⟩ (by simp) (Or.inl e)))
  have hent:Ents N wa (la++⟨98,5,.slice A9 (ds.length+1) c9,L++M,ds++[d]⟩ :: lb):=Ents.growAt (HH.out.ents.bel hbr) h2 h3 (e':=⟨98,5,.slice A9 (ds.length+1) c9,L++M,ds++[d]⟩) hO (fun b hb=>?gx)
  case gx =>
   exact rk49
  have hqz:=HH.out.box.1
  have hqN2:=low_grow (y:=.slice A9 (ds.length+1) c9) (M:=M) (d:=d) hqN (fun e=>(hbl q e).elim id (fun h=>by omega)) (fun e=>(HM.out q e).2.1 rfl)
  have MK:=hide (show MkS N (wa.setCell ⟨q,2,none⟩ (.slice A9 (ds.length+1) c9)) q v0 v1 (.slice A9 (ds.length+1) c9) v3 v4 v5 v6 v7 v8 v9 v10 v11 (.int .i64 nm) la lb (L++M) (ds++[d])from⟨BX.put2 _,hent.far2 hqN2 2 _,hqN2⟩)
  exact rk88
end Go.Proofs.YtehcjlkgfgpjnaaGreatDoor
namespace Go.Proofs.YtehcjlkgfgpjnaaGreatDoor
set_option linter.unusedVariables false
set_option linter.unusedSimpArgs false
set_option maxRecDepth 100000
open Go.RowKit
theorem Z6.block {w w':World} {b:Nat} (h:Z6 w b) (hs:w.heap.size≤w'.heap.size) (hb:w'.heap[b]?=w.heap[b]?):Z6 w' b:=by
 obtain⟨c0,c1,c2,c3,c4,c5,f,l⟩:=h
 have e:∀o,w'.cell? ⟨b,o,none⟩=w.cell? ⟨b,o,none⟩:=fun o=>World.cell?_of_block hb
 exact⟨(e 0).trans c0,(e 1).trans c1,(e 2).trans c2,(e 3).trans c3,(e 4).trans c4,(e 5).trans c5,fun o=>(World.frozen?_of_block hb).trans (f o),by omega⟩
structure ButB (r:Nat) (w w':World):Prop where
 size:w'.heap.size=w.heap.size
 os:w'.os=w.os
 tape:w'.tape=w.tape
 output:w'.output=w.output
 block:∀k,k≠r→w'.heap[k]?=w.heap[k]?
theorem ButB.set {r:Nat} {w w':World} (h:ButB r w w') (o:Nat) (u:Value):ButB r w (w'.setCell ⟨r,o,none⟩ u):=by
 have hB:Below r w' (w'.setCell ⟨r,o,none⟩ u):=Below.setCell (Below.refl r w') (Nat.le_refl r) _
 exact⟨by simpa using h.size,hB.os.trans h.os,hB.tape.trans h.tape,hB.output.trans h.output,fun k hk=>(set_block o u (fun e=>hk e.symm)).trans (h.block k hk)⟩
theorem gen_ret6k {P:Program} {fn:Func} {Q:Ending→World→Prop} {ex:Exit} {a:Act} {w:World} {b:Nat} {x0 x1 x2 x3 x4 x5:Value} (h:Z6 w b)
  (H:∀w',w'.cell? ⟨b,0,none⟩=some x0→w'.cell? ⟨b,1,none⟩=some x1→w'.cell? ⟨b,2,none⟩=some x2→w'.cell? ⟨b,3,none⟩=some x3→w'.cell? ⟨b,4,none⟩=some x4→w'.cell? ⟨b,5,none⟩=some x5→ButB b w w'→bodyPost P fn Q ex a w') :
  bodyPost P fn Q ex a ((((((w.setCell ⟨b,0,none⟩ x0).setCell ⟨b,1,none⟩ x1).setCell ⟨b,2,none⟩ x2).setCell ⟨b,3,none⟩ x3).setCell ⟨b,4,none⟩ x4).setCell ⟨b,5,none⟩ x5):=by
 obtain⟨d0,d1,d2,d3,d4,d5⟩:=h.put x0 x1 x2 x3 x4 x5
 exact H _ d0 d1 d2 d3 d4 d5 ((((((ButB.set ⟨rfl,rfl,rfl,rfl,fun _ _=>rfl⟩ 0 x0).set 1 x1).set 2 x2).set 3 x3).set 4 x4).set 5 x5)
theorem MkS.keep {N r:Nat} {w w':World} {q:Nat} {v0 v1 v2 v3 v4 v5 v6 v7 v8 v9 v10 v11 v12:Value} {la lb:List Ent} {L:List Nat} {ds:List (List Dat)} (h:MkS N w q v0 v1 v2 v3 v4 v5 v6 v7 v8 v9 v10 v11 v12 la lb L ds) (hs:w.heap.size≤w'.heap.size) (hb:∀k,k<w.heap.size→k≠r→w'.heap[k]?=w.heap[k]?) (hr:q≠r) (hn:∀f,f∈la++⟨98,5,v2,L,ds⟩ :: lb→¬Blk f.v f.L r):MkS N w' q v0 v1 v2 v3 v4 v5 v6 v7 v8 v9 v10 v11 v12 la lb L ds :=
 ⟨h.box.block hs (hb q h.box.1 hr),h.ents.keep hs fun e he b hm=>hb b ((h.ents.own e he).lt b hm) (fun e2=>hn e he (e2▸hm)),h.low⟩
theorem MadeP.fin {N r:Nat} {w wr w2 w3 w4:World} {q:Nat} {v0 v1 v2 v3 v4 v5 v6 v7 v8 v9 v10 v11 v12 x12 u12:Value} {la lb:List Ent} {L M:List Nat} {ds:List (List Dat)} {d:List Dat} {r0 r1:Value} {e:Ending} (h0:MkS N w q v0 v1 v2 v3 v4 v5 v6 v7 v8 v9 v10 v11 v12 la lb L ds) (hM:¬r∈M)
  (hs:w.heap.size≤wr.heap.size) (ho:wr.os=w.os∧wr.tape=w.tape∧wr.output=w.output) (hf:∀k,k<w.heap.size→k≠q→wr.heap[k]?=w.heap[k]?) (hr1:w.heap.size≤r) (hr2:r<wr.heap.size)
  (hP:MadeP N wr q v0 v1 v2 v3 v4 v5 v6 v7 v8 v9 v10 v11 x12 u12 la lb L M ds d r0 e w2) (hb:Bel w2 w3) (hB:ButB r w3 w4):MadeP N w q v0 v1 v2 v3 v4 v5 v6 v7 v8 v9 v10 v11 v12 u12 la lb L M ds d r1 (.returned r1) w4:=by
 obtain⟨y,-,hk,hfr,hy,hsm⟩:=hP
 have hlt:=(h0.ents.own ⟨98,5,v2,L,ds⟩ (by simp)).lt
 have hq:=h0.box.1
 have hz:=hb.size
 have hz4:=hB.size
 refine⟨y,rfl,(hk.on hb).keep (r:=r) (by omega) (fun k _ hk=>hB.block k hk) (by omega) (fun f hf hc=>?_),⟨hB.os.trans (hb.os.trans (hfr.1.trans ho.1)),hB.tape.trans (hb.tape.trans (hfr.2.1.trans ho.2.1)),hB.output.trans (hb.output.trans (hfr.2.2.1.trans ho.2.2)),by omega⟩,fun b hb=>(hy b hb).imp id (fun h=>by omega),fun k hk hkq hne=>(hB.block k (by omega)).trans ((Below.block hb k (by omega)).trans ((hsm k (by omega) hkq hne).trans (hf k hk hkq)))⟩
 rcases List.mem_append.1 hf with hf | hf
 ·
  have:=(h0.ents.own f (List.mem_append.2 (Or.inl hf))).lt r hc
  omega
 ·
  rcases List.mem_cons.1 hf with rfl | hf
  ·
   rcases hc with hc | hc
   ·
    rcases hy r hc with h | h
    ·
     have:=hlt r (Or.inl h)
     omega
    ·
     omega
   ·
    rcases List.mem_append.1 hc with hc | hc
    ·
     have:=hlt r (Or.inr hc)
     omega
    ·
     exact hM hc
  ·
   have:=(h0.ents.own f (List.mem_append.2 (Or.inr (List.mem_cons_of_mem _ hf)))).lt r hc
   omega
end Go.Proofs.YtehcjlkgfgpjnaaGreatDoor
namespace Go.Proofs.YtehcjlkgfgpjnaaGreatDoor
set_option linter.unusedVariables false
set_option linter.unusedSimpArgs false
set_option maxRecDepth 100000
open Go.RowKit
def updB (s:Nat→Bool) (i:Nat):Nat→Bool:=fun j=>if j=i then true else s j
theorem updB_set {listed:Array Bool} {i:Nat} (hi:i<listed.size):(fun j=>(listed.setIfInBounds i true).getD j false)=updB (fun j=>listed.getD j false) i:=by
 funext j
 unfold updB
 by_cases h:j=i
 ·
  subst h
  rw[if_pos rfl,getD_true_of (by simpa using hi),Array.getElem_setIfInBounds_self]
 ·
  rw[if_neg h]
  exact getD_set_ne false (fun e=>h e.symm)
section
variable {P:Program} {ops:Array Oper} {Q:Exit→Act→World→Prop}
end
def SepJ (A C:List Nat) (s:Nat→Bool) (u:Nat→Value) (w:World):Prop :=
 (∀a,a∈A++C→s a=true→∀b,(u a).ownBlock=some b→b<w.heap.size)∧∀a,a∈A→∀c,c∈C→s a=true→s c=true→∀b,(u a).ownBlock=some b→(u c).ownBlock≠some b
theorem SepJ.none {A C:List Nat} {u:Nat→Value} {w:World}:SepJ A C (fun _=>false) u w:=⟨fun _ _ h=>(by cases h),fun _ _ _ _ h=>(by cases h)⟩
theorem SepJ.on {A C:List Nat} {s:Nat→Bool} {u:Nat→Value} {w w':World} (h:SepJ A C s u w) (hs:w.heap.size≤w'.heap.size):SepJ A C s u w':=⟨fun a ha hb b hc=>Nat.lt_of_lt_of_le (h.1 a ha hb b hc) hs,h.2⟩
theorem SepJ.skip {A C:List Nat} {s:Nat→Bool} {u:Nat→Value} {w w':World} {i:Nat} {v:Value} (hi:(A++C).contains i=false) (h:SepJ A C s u w) (hs:w.heap.size≤w'.heap.size):SepJ A C (updB s i) (updF u i v) w':=by
 have ne:∀a,a∈A++C→a≠i:=fun a ha e=>by subst e;rw[List.contains_iff_mem.2 ha]at hi;cases hi
 have e1:∀a,a∈A++C→updB s i a=s a:=fun a ha=>if_neg (ne a ha)
 have e2:∀a,a∈A++C→updF u i v a=u a:=fun a ha=>if_neg (ne a ha)
 refine⟨fun a ha hb b hc=>?_,fun a ha c hc h1 h2 b h3 h4=>?_⟩
 ·
  rw[e1 a ha]at hb
  rw[e2 a ha]at hc
  exact Nat.lt_of_lt_of_le (h.1 a ha hb b hc) hs
 ·
  have m1:=List.mem_append.2 (Or.inl ha:a∈A∨a∈C)
  have m2:=List.mem_append.2 (Or.inr hc:c∈A∨c∈C)
  rw[e1 a m1]at h1
  rw[e1 c m2]at h2
  rw[e2 a m1]at h3
  rw[e2 c m2]at h4
  exact h.2 a ha c hc h1 h2 b h3 h4
end Go.Proofs.YtehcjlkgfgpjnaaGreatDoor
namespace Go.Proofs.YtehcjlkgfgpjnaaGreatDoor
set_option linter.unusedVariables false
set_option linter.unusedSimpArgs false
set_option maxRecDepth 100000
open Go.RowKit
section
variable {P:Program} {ops:Array Oper} {Q:Exit→Act→World→Prop}
def StepJ (P:Program) (ops:Array Oper) (Q:Exit→Act→World→Prop) (J:(Nat→Bool)→(Nat→Value)→World→Prop) (T:(Nat→Value)→Act) (i:Nat) (o:Oper):Prop :=
 ∀(u:Nat→Value) (w:World) (s:Nat→Bool),s i=false→(∀j,(aheadOf ops 12 (waitsFor ops i)).contains j=true→s j=true)→(∀k,s k=true→∀j,(waitsFor ops k).contains j=true→s j=true)→J s u w→∀K:Act→World→Prop,
  Shut (∀v w',J (updB s i) (updF u i v) w'→K ((T u).put o.dst v) w')→Oper.wp P o (T u) w K Q
theorem stepsJ_nil {J:(Nat→Bool)→(Nat→Value)→World→Prop} {T:(Nat→Value)→Act} {i m:Nat} (h:m≤i):∀j,i≤j→j<m→∀o,ops[j]?=some o→StepJ P ops Q J T j o:=fun j h1 h2=>by omega
theorem stepsJ_cons {J:(Nat→Bool)→(Nat→Value)→World→Prop} {T:(Nat→Value)→Act} {i i2 m:Nat} {o:Oper} (ho:ops[i]?=some o) (h:StepJ P ops Q J T i o)
  (hs:∀j,i2≤j→j<m→∀o,ops[j]?=some o→StepJ P ops Q J T j o) (hi:i2=i+1:=by rfl):∀j,i≤j→j<m→∀o,ops[j]?=some o→StepJ P ops Q J T j o:=fun j h1 h2 o' ho'=>by
 rcases Nat.lt_or_ge i j with h3 | h3
 ·
  exact hs j (by omega) h2 o' ho'
 ·
  obtain rfl:j=i:=by omega
  rw[ho]at ho'
  obtain rfl:=Option.some.inj ho'
  exact h
theorem wp_region_inv {id:Nat} {base:Act} {w:World} (m:Nat) (J:(Nat→Bool)→(Nat→Value)→World→Prop) (ds:List (Nat × Option Tmp)) {ol:Oper} (hds:idxD (dsts ops) 0=ds)
  (hf:formOk ops m=true) (hm:P.follows .mixedOrders=true) (hJ:∀u,J (fun _=>false) u w.drew) (hol:ops[m]?=some ol)
  (hstep:∀i,0≤i→i<m→∀o,ops[i]?=some o→StepJ P ops Q J (fun u=>putP u ds base) i o)
  (hlast:∀(u:Nat→Value) (w:World),(∃s:Nat→Bool,(∀j,j<m→s j=true)∧J s u w)→∀K:Act→World→Prop,
   Shut (∀v w',Q .normal ((putP u ds base).put ol.dst v) w'→K ((putP u ds base).put ol.dst v) w') →
   Oper.wp P ol (putP u ds base) w K Q):(Code.region id ops true).wp P Q base w:=by
 subst hds
 simp only[putP_idx]at hstep hlast
 unfold formOk at hf
 simp only[Bool.and_eq_true,List.all_eq_true,List.mem_range,decide_eq_true_eq]at hf
 obtain⟨⟨⟨⟨hw,hap⟩,hall⟩,hsz⟩,hgd⟩:=hf
 have plain:∀(i:Nat) (o:Oper) (y:Nat→Option Bool),ops[i]?=some o→Region.wanted o y=true:=fun i o y ho=>by
  have h1:=hgd o (Array.mem_toList_iff.2 (Array.mem_of_getElem? ho))
  unfold Region.wanted
  cases hq:o.guard with
  | none=>rfl
  | some q=>rw[hq]at h1;cases h1
 have hlt:∀j,j<ops.size→∀k∈waitsFor ops j,k<j:=fun j hj k hk=>hw j hj k hk
 have hmem:∀listed:Array Bool,ClosedL ops listed→listed.getD m false=true→∀j,j<m→listed.getD j false=true:=fun listed hc h j hj =>
  ahead_closed hc 12 [m] (fun k hk=>by rw[List.mem_singleton.1 hk];exact h) j (by have:=hall j hj;simpa using this)
 have key:∀(fuel:Nat) (listed:Array Bool) (a:Act) (w:World),listed.size=ops.size→ClosedL ops listed→listed.getD m false=false→(∃u,a=putF u (dsts ops) 0 base∧J (fun j=>listed.getD j false) u w)→(List.range ops.size).countP (fun j=>!listed.getD j true)≤fuel→wpAny P .any ops Q fuel listed a w:=by
  intro fuel
  induction fuel with
  | zero =>
   exact rk187
  | succ fuel ih =>
   intro listed a w hs hc hl hI hn
   refine⟨fun hr=>?_,fun i hi=>?_⟩
   ·
    have:=ready_nil hlt hs hr (m+1) m (by omega) (by omega)
    rw[this]at hl
    cases hl
   ·
    obtain⟨hjun,o,ho,-⟩:=mem_ready.1 hi
    have hi1:i<ops.size:=(Array.getElem?_eq_some_iff.1 ho).1
    have hif:listed.getD i false=false:=by rw[getD_true_of (by omega)]at hjun ⊢;exact hjun
    obtain⟨u,rfl,hJ0⟩:=hI
    have hd:(dsts ops)[i]?=some o.dst:=by
     unfold dsts
     rw[List.getElem?_map,Array.getElem?_toList,ho]
     rfl
    have hput:∀v,(putF u (dsts ops) 0 base).put o.dst v=putF (updF u i v) (dsts ops) 0 base:=fun v=>by
     have:=putF_upd (u:=u) v (dsts ops) 0 i o.dst base hap hd
     rwa [Nat.zero_add]at this
    have hs2:(listed.setIfInBounds i true).size=ops.size:=by simpa using hs
    have hself:(listed.setIfInBounds i true).getD i false=true:=by rw[getD_true_of (by omega),Array.getElem_setIfInBounds_self]
    have hcn:(List.range ops.size).countP (fun j=>!(listed.setIfInBounds i true).getD j true)≤fuel:=by
     exact rk160
    have hjm:∀j,listed.getD j false=true→j<m:=fun j hj=>by
     rcases Nat.lt_or_ge j ops.size with h | h
     ·
      exact rk211
     ·
      rw[Array.getD_eq_getD_getElem?,Array.getElem?_eq_none (by omega)]at hj
      cases hj
    by_cases him:i=m
    ·
     subst him
     have hol':o=ol:=by rw[ho]at hol;exact Option.some.inj hol
     subst hol'
     have hall4:∀j,j<i→listed.getD j false=true:=fun j hj=>by
      have h3:=hmem _ (closed_set hc hi) hself j hj
      rwa [getD_set_ne false (by omega)]at h3
     have hall3:∀j,j<ops.size→(listed.setIfInBounds i true).getD j false=true:=fun j hj=>by
      rcases Nat.lt_or_ge j i with h | h
      ·
       exact hmem _ (closed_set hc hi) hself j h
      ·
       obtain rfl:j=i:=by omega
       exact hself
     have hnil:Region.ready .any ops (listed.setIfInBounds i true)=[]:=by
      exact rk191
     exact wpOp_step ho fun K' hK=>(if_pos (plain _ _ _ ho)).mpr <| hlast u w ⟨_,hall4,hJ0⟩ K' (fun v w' hq=>hK _ _ (wpAny_done hnil hq _))
    ·
     have him2:(listed.setIfInBounds i true).getD m false=false:=by rw[getD_set_ne false him];exact hl
     refine wpOp_step ho fun K' hK=>(if_pos (plain _ _ _ ho)).mpr <| hstep i (Nat.zero_le _) (by omega) o ho u w _ hif (fun j hj=>ahead_closed hc 12 _ (waits_ready hi) j (by simpa using hj)) (fun k hk j hj=>hc k hk j (by simpa using hj)) hJ0 K' (fun v w' hJv=>hK _ _ ?_)
     exact ih _ _ _ hs2 (closed_set hc hi) him2 ⟨updF u i v,hput v,by rw[show (fun j=>(listed.setIfInBounds i true).getD j false)=updB (fun j=>listed.getD j false) i from updB_set (by omega)];exact hJv⟩ hcn
 have hrep:∀j,(Array.replicate ops.size false).getD j false=true→False:=fun j hj=>by
  by_cases h:j<ops.size
  ·
   rw[getD_true_of (by simpa using h)]at hj;simp at hj
  ·
   exact rk213
 refine wp_region_any hm (key ops.size _ _ _ (by simp) (fun j hj=>(hrep j hj).elim) ?_ ⟨fun j=>(((dsts ops)[j]?.getD none).map (fun t=>base.tmps.getD t undef)).getD undef,?_,(by rw[show (fun j=>(Array.replicate ops.size false).getD j false)=(fun _=>false)from funext fun j=>(by cases hq:(Array.replicate ops.size false).getD j false with | false=>rfl | true=>exact (hrep j hq).elim)];exact hJ _)⟩ ?_)
 ·
  rw[getD_true_of (by simp;omega)];simp
 ·
  symm
  refine putF_same base (dsts ops) 0 _ fun i d hd=>?_
  simp only[Nat.zero_add,hd,Option.getD_some]
 ·
  exact rk205
end
end Go.Proofs.YtehcjlkgfgpjnaaGreatDoor
