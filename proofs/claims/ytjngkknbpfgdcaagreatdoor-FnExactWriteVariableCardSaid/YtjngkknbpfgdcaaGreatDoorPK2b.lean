import Derived.Test.YtjngkknbpfgdcaaGreatDoorPNb
import Derived.Test.YtjngkknbpfgdcaaGreatDoorPMActive
import Derived.Test.YtjngkknbpfgdcaaGreatDoorPShelf
import Derived.Test.YtjngkknbpfgdcaaGreatDoorPB
import Derived.Test.YtjngkknbpfgdcaaGreatDoorPOw
set_option linter.unusedVariables false
set_option linter.unusedSimpArgs false
set_option maxRecDepth 100000
set_option maxHeartbeats 8000000
namespace Go.Proofs.YtjngkknbpfgdcaaGreatDoor
open Go.RowKit
theorem Ck {N:Nat} {w:World}:∀(l:List GH),mv N w l->∃Ms:List (List Nat),Ms.length=l.length/\(∀(i:Nat) (e:GH),l[i]?=some e->∃A c M,Ms[i]?=some M/\e.v=.slice A e.ds.length c/\cL w M e.k A c e.ds)/\Ms.flatten.Nodup/\∀b,b∈Ms.flatten->∃e∈l,mW e.v e.L b
 | [],_=>⟨[],rfl,fun i e h=>by simp at h,List.nodup_nil,fun b hb=>by simp at hb⟩
 | x :: r,h=>by
  have hp:=List.pairwise_cons.1 h.sep
  obtain⟨Ms,h1,h2,h3,h4⟩:=Ck r ⟨fun e he=>h.own e (List.mem_cons_of_mem _ he),fun e he=>h.low e (List.mem_cons_of_mem _ he),hp.2⟩
  obtain⟨A,c,M,e1,e2,e3,e4⟩:=fp.ownRow (h.own x (List.mem_cons_self ..))
  refine⟨M :: Ms,by simp[h1],fun i e he=>?_,?_,fun b hb=>?_⟩
  ·
   cases i with
   | zero =>
    obtain rfl:x=e:=by simpa using he
    exact⟨A,c,M,rfl,e1,e2⟩
   | succ i=>exact h2 i e (by simpa using he)
  ·
   rw[List.flatten_cons]
   exact j2 e3 h3 (fun a ha hb=>by obtain⟨e,he,hq⟩:=h4 a hb;exact hp.1 e he a (e4 a ha) hq)
  ·
   rw[List.flatten_cons]at hb
   rcases List.mem_append.1 hb with hb | hb
   ·
    exact⟨x,List.mem_cons_self ..,e4 b hb⟩
   ·
    obtain⟨e,he,hq⟩:=h4 b hb
    exact⟨e,List.mem_cons_of_mem _ he,hq⟩
theorem Ew {N:Nat} {w:World} {x0:List ByteArray} {x1:List cA} {x2:List cz} {x3:List cw} {x4:ByteArray} {x5:Int} {x6 x7:List ByteArray} {x8:List cJ} {x9:Bool} {x10 x11 x12:Int} {v0 v1 v2 v3 v6 v7 v8:Value} {L0 L1 L2 L3 L6 L7 L8:List Nat} (h:mv N w [⟨9,1,v0,L0,x0.map (fun x=>[Dat.str x])⟩,⟨109,3,v1,L1,x1.map cA.D⟩,⟨81,5,v2,L2,x2.map cz.D⟩,⟨34,6,v3,L3,x3.map cw.D⟩,⟨9,1,v6,L6,x6.map (fun x=>[Dat.str x])⟩,⟨9,1,v7,L7,x7.map (fun x=>[Dat.str x])⟩,⟨76,2,v8,L8,x8.map cJ.D⟩]) (h4:x4.size<=maxLen) (h5:fD x5) (h10:fD x10) (h11:fD x11) (h12:fD x12):∃L,Dat.dB w L (cv.mk x0 x1 x2 x3 x4 x5 x6 x7 x8 x9 x10 x11 x12).D [v0,v1,v2,v3,.string x4,.int .i64 x5,v6,v7,v8,.bool x9,.int .i64 x10,.int .i64 x11,.int .i64 x12]/\L.Nodup/\∀b,b∈L->N<=b:=by
 obtain⟨Ms,hlen,hrow,hnd,hin⟩:=Ck _ h
 obtain⟨M0,M1,M2,M3,M6,M7,M8,rfl⟩:∃M0 M1 M2 M3 M6 M7 M8,Ms=[M0,M1,M2,M3,M6,M7,M8]:=by match Ms,hlen with | [M0,M1,M2,M3,M6,M7,M8],_=>exact⟨_,_,_,_,_,_,_,rfl⟩
 obtain⟨A0,c0,M,hM,e0,r0⟩:=hrow 0 _ rfl
 obtain rfl:=Option.some.inj (show some M0=some M from hM)
 replace e0:v0=.slice A0 (x0.map (fun x=>[Dat.str x])).length c0:=e0
 rw[aj]at e0
 subst e0
 obtain⟨A1,c1,M,hM,e1,r1⟩:=hrow 1 _ rfl
 obtain rfl:=Option.some.inj (show some M1=some M from hM)
 replace e1:v1=.slice A1 (x1.map cA.D).length c1:=e1
 rw[aj]at e1
 subst e1
 obtain⟨A2,c2,M,hM,e2,r2⟩:=hrow 2 _ rfl
 obtain rfl:=Option.some.inj (show some M2=some M from hM)
 replace e2:v2=.slice A2 (x2.map cz.D).length c2:=e2
 rw[aj]at e2
 subst e2
 obtain⟨A3,c3,M,hM,e3,r3⟩:=hrow 3 _ rfl
 obtain rfl:=Option.some.inj (show some M3=some M from hM)
 replace e3:v3=.slice A3 (x3.map cw.D).length c3:=e3
 rw[aj]at e3
 subst e3
 obtain⟨A6,c6,M,hM,e6,r6⟩:=hrow 4 _ rfl
 obtain rfl:=Option.some.inj (show some M6=some M from hM)
 replace e6:v6=.slice A6 (x6.map (fun x=>[Dat.str x])).length c6:=e6
 rw[aj]at e6
 subst e6
 obtain⟨A7,c7,M,hM,e7,r7⟩:=hrow 5 _ rfl
 obtain rfl:=Option.some.inj (show some M7=some M from hM)
 replace e7:v7=.slice A7 (x7.map (fun x=>[Dat.str x])).length c7:=e7
 rw[aj]at e7
 subst e7
 obtain⟨A8,c8,M,hM,e8,r8⟩:=hrow 6 _ rfl
 obtain rfl:=Option.some.inj (show some M8=some M from hM)
 replace e8:v8=.slice A8 (x8.map cJ.D).length c8:=e8
 rw[aj]at e8
 subst e8
 have hfl:[M0,M1,M2,M3,M6,M7,M8].flatten=M0++(M1++(M2++(M3++(M6++(M7++M8))))):=aK
 rw[hfl]at hnd hin
 exact⟨_,cv.jQ r0 r1 r2 r3 h4 h5 r6 r7 r8 h10 h11 h12,hnd,fun b hb=>by obtain⟨e,he,hq⟩:=hin b hb;exact h.low e he b hq⟩
theorem Z6.block {w w':World} {b:Nat} (h:Z6 w b) (hs:w.heap.size<=w'.heap.size) (hb:w'.heap[b]?=w.heap[b]?):Z6 w' b:=by
 obtain⟨c0,c1,c2,c3,c4,c5,f,l⟩:=h
 have e:∀o,w'.cell? ⟨b,o,none⟩=w.cell? ⟨b,o,none⟩:=fun o=>World.cell?_of_block hb
 exact⟨(e 0).trans c0,(e 1).trans c1,(e 2).trans c2,(e 3).trans c3,(e 4).trans c4,(e 5).trans c5,fun o=>(World.frozen?_of_block hb).trans (f o),by omega⟩
structure MR (r:Nat) (w w':World):Prop where
 size:w'.heap.size=w.heap.size
 os:w'.os=w.os
 tape:w'.tape=w.tape
 output:w'.output=w.output
 block:∀k,k≠r->w'.heap[k]?=w.heap[k]?
theorem MR.set {r:Nat} {w w':World} (h:MR r w w') (o:Nat) (u:Value):MR r w (w'.setCell ⟨r,o,none⟩ u):=by
 have hB:Below r w' (w'.setCell ⟨r,o,none⟩ u):=Below.setCell (Below.refl r w') (Nat.le_refl r) _
 exact⟨by simpa using h.size,hB.os.trans h.os,hB.tape.trans h.tape,hB.output.trans h.output,fun k hk=>(eX o u (fun e=>hk e.symm)).trans (h.block k hk)⟩
structure V6 (w:World) (b:Nat) (k n i:Int) (t:ByteArray) (lo hi:Int):Prop where
 lt:b<w.heap.size
 fr:∀o,w.frozen? ⟨b,o,none⟩=false
 c0:w.cell? ⟨b,0,none⟩=some (.int .i64 k)
 c1:w.cell? ⟨b,1,none⟩=some (.int .i64 n)
 c2:w.cell? ⟨b,2,none⟩=some (.int .i64 i)
 c3:w.cell? ⟨b,3,none⟩=some (.string t)
 c4:w.cell? ⟨b,4,none⟩=some (.int .i64 lo)
 c5:w.cell? ⟨b,5,none⟩=some (.int .i64 hi)
theorem V6.block {w w':World} {b:Nat} {k n i:Int} {t:ByteArray} {lo hi:Int} (h:V6 w b k n i t lo hi) (hs:w.heap.size<=w'.heap.size) (hb:w'.heap[b]?=w.heap[b]?):V6 w' b k n i t lo hi:=by
 have e:∀o,w'.cell? ⟨b,o,none⟩=w.cell? ⟨b,o,none⟩:=fun o=>World.cell?_of_block hb
 exact⟨ak h.lt hs,fun o=>(World.frozen?_of_block hb).trans (h.fr o),(e 0).trans h.c0,(e 1).trans h.c1,(e 2).trans h.c2,(e 3).trans h.c3,(e 4).trans h.c4,(e 5).trans h.c5⟩
theorem V6.on {w w':World} {b:Nat} {k n i:Int} {t:ByteArray} {lo hi:Int} (h:V6 w b k n i t lo hi) (k':cE w w'):V6 w' b k n i t lo hi:=h.block k'.size (Below.block k' b h.lt)
theorem V6.new (w:World) (ty:TypeId) {k n i:Int} {t:ByteArray} {lo hi:Int}:V6 (w.alloc (.cells #[.int .i64 k,.int .i64 n,.int .i64 i,.string t,.int .i64 lo,.int .i64 hi] ty)) w.heap.size k n i t lo hi:=⟨by simp,fun o=>by simp,by simp,by simp,by simp,by simp,by simp,by simp⟩
theorem V6.put {w:World} {b:Nat} {k n i:Int} {t:ByteArray} {lo hi:Int} (h:V6 w b k n i t lo hi) (k2 n2 i2:Int) (t2:ByteArray) (lo2 hi2:Int):V6 ((((((w.setCell ⟨b,0,none⟩ (.int .i64 k2)).setCell ⟨b,1,none⟩ (.int .i64 n2)).setCell ⟨b,2,none⟩ (.int .i64 i2)).setCell ⟨b,3,none⟩ (.string t2)).setCell ⟨b,4,none⟩ (.int .i64 lo2)).setCell ⟨b,5,none⟩ (.int .i64 hi2)) b k2 n2 i2 t2 lo2 hi2:=by
 obtain⟨l,f,c0,c1,c2,c3,c4,c5⟩:=h
 exact⟨by simpa using l,fun o=>by simp[f],by simp[c0,go_sem],by simp[c1,go_sem],by simp[c2,go_sem],by simp[c3,go_sem],by simp[c4,go_sem],by simp[c5,go_sem]⟩
theorem V6.far {w:World} {b b':Nat} {k n i:Int} {t:ByteArray} {lo hi:Int} (h:V6 w b k n i t lo hi) (hn:b'≠b) (o:Nat) (u:Value):V6 (w.setCell ⟨b',o,none⟩ u) b k n i t lo hi:=h.block aK (eX o u hn)
def MS (w:World) (b:Nat) (k n i:Int) (t:ByteArray) (lo hi:Int):Prop:=b<w.heap.size/\w.cell? ⟨b,0,none⟩=some (.int .i64 k)/\w.cell? ⟨b,1,none⟩=some (.int .i64 n)/\w.cell? ⟨b,2,none⟩=some (.int .i64 i)/\w.cell? ⟨b,3,none⟩=some (.string t)/\w.cell? ⟨b,4,none⟩=some (.int .i64 lo)/\w.cell? ⟨b,5,none⟩=some (.int .i64 hi)
theorem MS.block {w w':World} {b:Nat} {k n i lo hi:Int} {t:ByteArray} (h:MS w b k n i t lo hi) (hs:w.heap.size<=w'.heap.size) (hb:w'.heap[b]?=w.heap[b]?):MS w' b k n i t lo hi:=by
 obtain⟨l,c0,c1,c2,c3,c4,c5⟩:=h
 have e:∀o,w'.cell? ⟨b,o,none⟩=w.cell? ⟨b,o,none⟩:=fun o=>World.cell?_of_block hb
 exact⟨by omega,(e 0).trans c0,(e 1).trans c1,(e 2).trans c2,(e 3).trans c3,(e 4).trans c4,(e 5).trans c5⟩
theorem MS.on {w w':World} {b:Nat} {k n i lo hi:Int} {t:ByteArray} (h:MS w b k n i t lo hi) (k':cE w w'):MS w' b k n i t lo hi:=h.block k'.size (Below.block k' b h.1)
theorem JR (w:World):Dat.dB w ([]++([]++([]++([]++([]++([]++[])))))) qR.D [.slice none 0 0,.slice none 0 0,.slice none 0 0,.slice none 0 0,.string ByteArray.empty,.int .i64 0,.slice none 0 0,.slice none 0 0,.slice none 0 0,.bool false,.int .i64 0,.int .i64 0,.int .i64 0]:=by
 have z:cL w [] 1 none 0 []:=cL.nil w 1 none 0 (Nat.zero_le _)
 have i0:fD 0:=by unfold fD;omega
 exact cv.jQ (x0:=[]) (x1:=[]) (x2:=[]) (x3:=[]) (x4:=ByteArray.empty) (x5:=0) (x6:=[]) (x7:=[]) (x8:=[]) (x9:=false) (x10:=0) (x11:=0) (x12:=0) z (cL.nil w 3 none 0 (Nat.zero_le _)) (cL.nil w 5 none 0 (Nat.zero_le _)) (cL.nil w 6 none 0 (Nat.zero_le _)) (by show ByteArray.empty.size<=maxLen;exact Nat.zero_le _) i0 z z (cL.nil w 2 none 0 (Nat.zero_le _)) i0 i0 i0
theorem sW {b b':Nat} (hn:b'≠b):∀(vs:List Value) (o:Nat) (w:World),(w.setCells b' o vs).heap[b]?=w.heap[b]?
 | [],o,w=>rfl
 | v :: r,o,w=>(sW hn r (o+1) _).trans (eX o v hn)
theorem Ex {Q:Exit->Act->World->Prop} {ex:Exit} {a:Act} {W:World} (h:∀wz,W=wz->Q ex a wz):Q ex a W:=h W rfl
def cv.mE:cv->Nat
 | .mk x0 x1 x2 x3 x4 x5 x6 x7 x8 x9 x10 x11 x12=>Dat.eh (x0.map (fun x=>[Dat.str x]))+Dat.eh (x1.map cA.D)+Dat.eh (x2.map cz.D)+Dat.eh (x3.map cw.D)+Dat.eh (x6.map (fun x=>[Dat.str x]))+Dat.eh (x7.map (fun x=>[Dat.str x]))+Dat.eh (x8.map cJ.D)
def cv.uz (w:World) (L:List Nat) (k:Int) (vs:List Value):cv->Prop
 | .mk x0 x1 x2 x3 x4 x5 x6 x7 x8 x9 x10 x11 x12=>∃A0 c0 L0 A1 c1 L1 A2 c2 L2 A3 c3 L3 A6 c6 L6 A7 c7 L7 A8 c8 L8,L=L0++(L1++(L2++(L3++(L6++(L7++L8)))))/\vs=[.slice A0 x0.length c0,.slice A1 x1.length c1,.slice A2 x2.length c2,.slice A3 x3.length c3,.string x4,.int .i64 x5,.slice A6 x6.length c6,.slice A7 x7.length c7,.slice A8 x8.length c8,.bool x9,.int .i64 x10,.int .i64 x11,.int .i64 x12]/\cL w L0 1 A0 c0 (Dat.gC (k) (x0.map (fun x=>[Dat.str x])))/\cL w L1 3 A1 c1 (Dat.gC (k+(Dat.eh (x0.map (fun x=>[Dat.str x])):Nat)) (x1.map cA.D))/\cL w L2 5 A2 c2 (Dat.gC (k+(Dat.eh (x0.map (fun x=>[Dat.str x])):Nat)+(Dat.eh (x1.map cA.D):Nat)) (x2.map cz.D))/\cL w L3 6 A3 c3 (Dat.gC (k+(Dat.eh (x0.map (fun x=>[Dat.str x])):Nat)+(Dat.eh (x1.map cA.D):Nat)+(Dat.eh (x2.map cz.D):Nat)) (x3.map cw.D))/\cL w L6 1 A6 c6 (Dat.gC (k+(Dat.eh (x0.map (fun x=>[Dat.str x])):Nat)+(Dat.eh (x1.map cA.D):Nat)+(Dat.eh (x2.map cz.D):Nat)+(Dat.eh (x3.map cw.D):Nat)) (x6.map (fun x=>[Dat.str x])))/\cL w L7 1 A7 c7 (Dat.gC (k+(Dat.eh (x0.map (fun x=>[Dat.str x])):Nat)+(Dat.eh (x1.map cA.D):Nat)+(Dat.eh (x2.map cz.D):Nat)+(Dat.eh (x3.map cw.D):Nat)+(Dat.eh (x6.map (fun x=>[Dat.str x])):Nat)) (x7.map (fun x=>[Dat.str x])))/\cL w L8 2 A8 c8 (Dat.gC (k+(Dat.eh (x0.map (fun x=>[Dat.str x])):Nat)+(Dat.eh (x1.map cA.D):Nat)+(Dat.eh (x2.map cz.D):Nat)+(Dat.eh (x3.map cw.D):Nat)+(Dat.eh (x6.map (fun x=>[Dat.str x])):Nat)+(Dat.eh (x7.map (fun x=>[Dat.str x])):Nat)) (x8.map cJ.D))
theorem cv.Su:∀t:cv,t.mE<=16*Dat.mg t.D:=by
 rintro⟨x0,x1,x2,x3,x4,x5,x6,x7,x8,x9,x10,x11,x12⟩
 have r0:=jv (fun x=>[Dat.str x]) x0 (fun i hi=>by simp[Dat.mF,Dat.cnt];omega)
 have r1:=jv cA.D x1 (fun i hi=>cA.oA x1[i])
 have r2:=jv cz.D x2 (fun i hi=>cz.oA x2[i])
 have r3:=jv cw.D x3 (fun i hi=>cw.oA x3[i])
 have r6:=jv (fun x=>[Dat.str x]) x6 (fun i hi=>by simp[Dat.mF,Dat.cnt];omega)
 have r7:=jv (fun x=>[Dat.str x]) x7 (fun i hi=>by simp[Dat.mF,Dat.cnt];omega)
 have r8:=jv cJ.D x8 (fun i hi=>cJ.oA x8[i])
 rw[cv.fU]
 simp only[cv.mE,Dat.mg,Dat.wt,aj]
 omega
theorem cv.uz.gL {S:Nat->Prop} {w w':World} {L:List Nat} {k:Int} {vs:List Value} {t:cv} (ho:dP S w w') (hS:∀x,x∈L->S x) (h:cv.uz w L k vs t):cv.uz w' L k vs t:=by
 obtain⟨x0,x1,x2,x3,x4,x5,x6,x7,x8,x9,x10,x11,x12⟩:=t
 obtain⟨A0,c0,L0,A1,c1,L1,A2,c2,L2,A3,c3,L3,A6,c6,L6,A7,c7,L7,A8,c8,L8,rfl,hv,g0,g1,g2,g3,g6,g7,g8⟩:=h
 exact⟨_,_,_,_,_,_,_,_,_,_,_,_,_,_,_,_,_,_,_,_,_,rfl,hv,cL.gL ho (fun x hx=>hS x (by simp[hx])) g0,cL.gL ho (fun x hx=>hS x (by simp[hx])) g1,cL.gL ho (fun x hx=>hS x (by simp[hx])) g2,cL.gL ho (fun x hx=>hS x (by simp[hx])) g3,cL.gL ho (fun x hx=>hS x (by simp[hx])) g6,cL.gL ho (fun x hx=>hS x (by simp[hx])) g7,cL.gL ho (fun x hx=>hS x (by simp[hx])) g8⟩
theorem cv.uz.lt {w:World} {L:List Nat} {k:Int} {vs:List Value} {t:cv} (h:cv.uz w L k vs t):∀x,x∈L->x<w.heap.size:=by
 obtain⟨x0,x1,x2,x3,x4,x5,x6,x7,x8,x9,x10,x11,x12⟩:=t
 obtain⟨A0,c0,L0,A1,c1,L1,A2,c2,L2,A3,c3,L3,A6,c6,L6,A7,c7,L7,A8,c8,L8,rfl,hv,g0,g1,g2,g3,g6,g7,g8⟩:=h
 intro x hx
 simp only[List.mem_append]at hx
 rcases hx with hx | hx
 ·
  exact g0.lt x hx
 rcases hx with hx | hx
 ·
  exact g1.lt x hx
 rcases hx with hx | hx
 ·
  exact g2.lt x hx
 rcases hx with hx | hx
 ·
  exact g3.lt x hx
 rcases hx with hx | hx
 ·
  exact g6.lt x hx
 rcases hx with hx | hx
 ·
  exact g7.lt x hx
 exact g8.lt x hx
theorem cv.uz.bel {w w':World} {L:List Nat} {k:Int} {vs:List Value} {t:cv} (hb:cE w w') (h:cv.uz w L k vs t):cv.uz w' L k vs t:=by
 obtain⟨x0,x1,x2,x3,x4,x5,x6,x7,x8,x9,x10,x11,x12⟩:=t
 obtain⟨A0,c0,L0,A1,c1,L1,A2,c2,L2,A3,c3,L3,A6,c6,L6,A7,c7,L7,A8,c8,L8,rfl,hv,g0,g1,g2,g3,g6,g7,g8⟩:=h
 exact⟨_,_,_,_,_,_,_,_,_,_,_,_,_,_,_,_,_,_,_,_,_,rfl,hv,cL.bel hb g0,cL.bel hb g1,cL.bel hb g2,cL.bel hb g3,cL.bel hb g6,cL.bel hb g7,cL.bel hb g8⟩
theorem sZ (t:cv) (L:List Nat) (w:World) (vs:List Value) (k:Int) (hv:Dat.dB w L t.D vs) (hnd:L.Nodup) (h0:0<=k) (hb:k+(t.mE:Nat)<=4611686018427387904) :
  Calls Tryz.prog 20 #[.agg vs.toArray,.int .i64 k] w fun e w'=>e=.returned (.int .i64 (k+(t.mE:Nat)))/\cv.uz w' L k vs t/\dP (fun x=>x∉L) w w':=by
 obtain⟨x0,x1,x2,x3,x4,x5,x6,x7,x8,x9,x10,x11,x12⟩:=t
 simp only[cv.mE]at hb |-
 obtain⟨A0,c0,sF,A1,c1,oU,A2,c2,sG,A3,c3,oj,A6,c6,sH,A7,c7,sI,A8,c8,sJ,hLL,rfl,g0,g1,g2,g3,-,-,g6,g7,g8,-,-,-,-⟩:=cv.gV hv
 clear hv
 have agt:=hLL.symm
 clear hLL
 subst agt
 obtain⟨q0,hq0⟩:∃q,Dat.eh (x0.map (fun x=>[Dat.str x]))=q:=⟨_,rfl⟩
 obtain⟨q1,hq1⟩:∃q,Dat.eh (x1.map cA.D)=q:=⟨_,rfl⟩
 obtain⟨q2,hq2⟩:∃q,Dat.eh (x2.map cz.D)=q:=⟨_,rfl⟩
 obtain⟨q3,hq3⟩:∃q,Dat.eh (x3.map cw.D)=q:=⟨_,rfl⟩
 obtain⟨q6,hq6⟩:∃q,Dat.eh (x6.map (fun x=>[Dat.str x]))=q:=⟨_,rfl⟩
 obtain⟨q7,hq7⟩:∃q,Dat.eh (x7.map (fun x=>[Dat.str x]))=q:=⟨_,rfl⟩
 obtain⟨q8,hq8⟩:∃q,Dat.eh (x8.map cJ.D)=q:=⟨_,rfl⟩
 simp only[hq0,hq1,hq2,hq3,hq6,hq7,hq8]at hb |-
 have agu:=hide (List.nodup_append.1 hnd).1
 have GI:=(List.nodup_append.1 hnd).2.2
 have Sv:=(List.nodup_append.1 hnd).2.1
 clear hnd
 have YW:=hide (List.nodup_append.1 Sv).1
 have JS:=(List.nodup_append.1 Sv).2.2
 have Sw:=(List.nodup_append.1 Sv).2.1
 clear Sv
 have agv:=hide (List.nodup_append.1 Sw).1
 have MT:=(List.nodup_append.1 Sw).2.2
 have Sx:=(List.nodup_append.1 Sw).2.1
 clear Sw
 have YX:=hide (List.nodup_append.1 Sx).1
 have GJ:=(List.nodup_append.1 Sx).2.2
 have GK:=(List.nodup_append.1 Sx).2.1
 clear Sx
 have agw:=hide (List.nodup_append.1 GK).1
 have YY:=(List.nodup_append.1 GK).2.2
 have Sy:=(List.nodup_append.1 GK).2.1
 clear GK
 have agx:=hide (List.nodup_append.1 Sy).1
 have abI:=(List.nodup_append.1 Sy).2.2
 have abJ:=(List.nodup_append.1 Sy).2.1
 clear Sy
 have agy:=hide abJ
 clear abJ
 have HI0:=hide (show ∀x,x∈sF->x∈(sF++(oU++(sG++(oj++(sH++(sI++sJ))))))from fun x h=>by simp[h])
 have agz:w.heap.size∉sF:=fun h=>Nat.lt_irrefl _ (g0.lt _ h)
 have G0:=hide g0
 have JT:=hide hq0
 have HI1:=hide (show ∀x,x∈oU->x∈(sF++(oU++(sG++(oj++(sH++(sI++sJ))))))from fun x h=>by simp[h])
 have YZ:w.heap.size∉oU:=fun h=>Nat.lt_irrefl _ (g1.lt _ h)
 have G1:=hide g1
 have rA:=hide hq1
 have HI2:=hide (show ∀x,x∈sG->x∈(sF++(oU++(sG++(oj++(sH++(sI++sJ))))))from fun x h=>by simp[h])
 have agA:w.heap.size∉sG:=fun h=>Nat.lt_irrefl _ (g2.lt _ h)
 have G2:=hide g2
 have xT:=hide hq2
 have HI3:=hide (show ∀x,x∈oj->x∈(sF++(oU++(sG++(oj++(sH++(sI++sJ))))))from fun x h=>by simp[h])
 have Y0:w.heap.size∉oj:=fun h=>Nat.lt_irrefl _ (g3.lt _ h)
 have G3:=hide g3
 have xd:=hide hq3
 have HI6:=hide (show ∀x,x∈sH->x∈(sF++(oU++(sG++(oj++(sH++(sI++sJ))))))from fun x h=>by simp[h])
 have agB:w.heap.size∉sH:=fun h=>Nat.lt_irrefl _ (g6.lt _ h)
 have G6:=hide g6
 have Mi:=hide hq6
 have HI7:=hide (show ∀x,x∈sI->x∈(sF++(oU++(sG++(oj++(sH++(sI++sJ))))))from fun x h=>by simp[h])
 have agC:w.heap.size∉sI:=fun h=>Nat.lt_irrefl _ (g7.lt _ h)
 have G7:=hide g7
 have Sf:=hide hq7
 have HI8:=hide (show ∀x,x∈sJ->x∈(sF++(oU++(sG++(oj++(sH++(sI++sJ))))))from fun x h=>by simp[h])
 have agD:w.heap.size∉sJ:=fun h=>Nat.lt_irrefl _ (g8.lt _ h)
 have G8:=hide g8
 have HQ8:=hide hq8
 have TY:=hide (show ∀x,x∈sF->x∉oU from fun x h h2=>GI x h x bu rfl)
 have abL:=hide (show ∀x,x∈oU->x∉sF from fun x h h2=>TY.out x h2 h)
 have TZ:=hide (show ∀x,x∈sF->x∉sG from fun x h h2=>GI x h x bu rfl)
 have abM:=hide (show ∀x,x∈sG->x∉sF from fun x h h2=>TZ.out x h2 h)
 have Ua:=hide (show ∀x,x∈sF->x∉oj from fun x h h2=>GI x h x bu rfl)
 have abN:=hide (show ∀x,x∈oj->x∉sF from fun x h h2=>Ua.out x h2 h)
 have Ub:=hide (show ∀x,x∈sF->x∉sH from fun x h h2=>GI x h x bu rfl)
 have abO:=hide (show ∀x,x∈sH->x∉sF from fun x h h2=>Ub.out x h2 h)
 have Uc:=hide (show ∀x,x∈sF->x∉sI from fun x h h2=>GI x h x bu rfl)
 have abP:=hide (show ∀x,x∈sI->x∉sF from fun x h h2=>Uc.out x h2 h)
 have Ud:=hide (show ∀x,x∈sF->x∉sJ from fun x h h2=>GI x h x bu rfl)
 have abQ:=hide (show ∀x,x∈sJ->x∉sF from fun x h h2=>Ud.out x h2 h)
 have Ue:=hide (show ∀x,x∈oU->x∉sG from fun x h h2=>JS x h x bu rfl)
 have abR:=hide (show ∀x,x∈sG->x∉oU from fun x h h2=>Ue.out x h2 h)
 have Uf:=hide (show ∀x,x∈oU->x∉oj from fun x h h2=>JS x h x bu rfl)
 have abS:=hide (show ∀x,x∈oj->x∉oU from fun x h h2=>Uf.out x h2 h)
 have Ug:=hide (show ∀x,x∈oU->x∉sH from fun x h h2=>JS x h x bu rfl)
 have abT:=hide (show ∀x,x∈sH->x∉oU from fun x h h2=>Ug.out x h2 h)
 have Uh:=hide (show ∀x,x∈oU->x∉sI from fun x h h2=>JS x h x bu rfl)
 have abU:=hide (show ∀x,x∈sI->x∉oU from fun x h h2=>Uh.out x h2 h)
 have Ui:=hide (show ∀x,x∈oU->x∉sJ from fun x h h2=>JS x h x bu rfl)
 have abV:=hide (show ∀x,x∈sJ->x∉oU from fun x h h2=>Ui.out x h2 h)
 have Uj:=hide (show ∀x,x∈sG->x∉oj from fun x h h2=>MT x h x bu rfl)
 have abW:=hide (show ∀x,x∈oj->x∉sG from fun x h h2=>Uj.out x h2 h)
 have Uk:=hide (show ∀x,x∈sG->x∉sH from fun x h h2=>MT x h x bu rfl)
 have abX:=hide (show ∀x,x∈sH->x∉sG from fun x h h2=>Uk.out x h2 h)
 have Ul:=hide (show ∀x,x∈sG->x∉sI from fun x h h2=>MT x h x bu rfl)
 have abY:=hide (show ∀x,x∈sI->x∉sG from fun x h h2=>Ul.out x h2 h)
 have Um:=hide (show ∀x,x∈sG->x∉sJ from fun x h h2=>MT x h x bu rfl)
 have abZ:=hide (show ∀x,x∈sJ->x∉sG from fun x h h2=>Um.out x h2 h)
 have Un:=hide (show ∀x,x∈oj->x∉sH from fun x h h2=>GJ x h x bu rfl)
 have ab1:=hide (show ∀x,x∈sH->x∉oj from fun x h h2=>Un.out x h2 h)
 have Uo:=hide (show ∀x,x∈oj->x∉sI from fun x h h2=>GJ x h x bu rfl)
 have ab2:=hide (show ∀x,x∈sI->x∉oj from fun x h h2=>Uo.out x h2 h)
 have Up:=hide (show ∀x,x∈oj->x∉sJ from fun x h h2=>GJ x h x bu rfl)
 have ab3:=hide (show ∀x,x∈sJ->x∉oj from fun x h h2=>Up.out x h2 h)
 have Uq:=hide (show ∀x,x∈sH->x∉sI from fun x h h2=>YY x h x bu rfl)
 have ab4:=hide (show ∀x,x∈sI->x∉sH from fun x h h2=>Uq.out x h2 h)
 have Ur:=hide (show ∀x,x∈sH->x∉sJ from fun x h h2=>YY x h x bu rfl)
 have ab5:=hide (show ∀x,x∈sJ->x∉sH from fun x h h2=>Ur.out x h2 h)
 have Us:=hide (show ∀x,x∈sI->x∉sJ from fun x h h2=>abI x h x bu rfl)
 have ab6:=hide (show ∀x,x∈sJ->x∉sI from fun x h h2=>Us.out x h2 h)
 clear GI JS MT GJ YY abI g0 g1 g2 g3 g6 g7 g8 hq0 hq1 hq2 hq3 hq6 hq7 hq8
 go_enter Tryz.func20,Tryz.ntmps20
 go_wp2_with (fail)
 refine (ma x0 sF _ A0 c0 _ (cL.gL (S:=fun x=>x∈sF) (w:=w) lL (fun x hx=>hx) G0.out) agu.out aB (by rw[JT.out];omega)).mono ?_
 rintro e w1 ⟨rfl,hM1,ho1⟩
 rw[JT.out]
 have HM1:=hide hM1
 have hz1:=ho1.size
 (try simp only[World.size_alloc,World.size_setCell,World.size_drew,World.heap_drewN]at hz1)
 have GL:=ho1.same w.heap.size agz aM
 have hk1:=GL.1
 have uA:=GL.2
 have hl1:w.heap.size<w1.heap.size:=aB
 have agE:=dP.narrow (S':=fun x=>x∉(sF++(oU++(sG++(oj++(sH++(sI++sJ))))))) ho1 (fun x hx h=>hx (HI0.out x h))
 have aje:=dP.narrow (S':=fun x=>x∈oU) ho1 (fun x hx=>abL.out x hx)
 have ajf:=dP.narrow (S':=fun x=>x∈sG) ho1 (fun x hx=>abM.out x hx)
 have ajg:=dP.narrow (S':=fun x=>x∈oj) ho1 (fun x hx=>abN.out x hx)
 have ajh:=dP.narrow (S':=fun x=>x∈sH) ho1 (fun x hx=>abO.out x hx)
 have aji:=dP.narrow (S':=fun x=>x∈sI) ho1 (fun x hx=>abP.out x hx)
 have ajj:=dP.narrow (S':=fun x=>x∈sJ) ho1 (fun x hx=>abQ.out x hx)
 clear GL ho1 hM1
 go_wp2_with (fail)
 refine (uB x1 oU _ A1 c1 _ (cL.gL (S:=fun x=>x∈oU) (w:=w) lL (fun x hx=>hx) G1.out) YW.out aB (by rw[rA.out];omega)).mono ?_
 rintro e w2 ⟨rfl,hM2,ho2⟩
 rw[rA.out]
 have HM2:=hide hM2
 have hz2:=ho2.size
 (try simp only[World.size_alloc,World.size_setCell,World.size_drew,World.heap_drewN]at hz2)
 have zO:=ho2.same w.heap.size YZ aM
 have hk2:=zO.1
 have Ey:=zO.2
 have hl2:w.heap.size<w2.heap.size:=aB
 have ab7:=dP.narrow (S':=fun x=>x∉(sF++(oU++(sG++(oj++(sH++(sI++sJ))))))) ho2 (fun x hx h=>hx (HI1.out x h))
 have ajk:=dP.narrow (S':=fun x=>x∈sF) ho2 (fun x hx=>TY.out x hx)
 have ajl:=dP.narrow (S':=fun x=>x∈sG) ho2 (fun x hx=>abR.out x hx)
 have ab8:=dP.narrow (S':=fun x=>x∈oj) ho2 (fun x hx=>abS.out x hx)
 have ajm:=dP.narrow (S':=fun x=>x∈sH) ho2 (fun x hx=>abT.out x hx)
 have ajn:=dP.narrow (S':=fun x=>x∈sI) ho2 (fun x hx=>abU.out x hx)
 have ajo:=dP.narrow (S':=fun x=>x∈sJ) ho2 (fun x hx=>abV.out x hx)
 clear zO ho2 hM2
 go_wp2_with (fail)
 refine (zt x2 sG _ A2 c2 _ (cL.gL (S:=fun x=>x∈sG) (w:=w) lL (fun x hx=>hx) G2.out) agv.out aB (by rw[xT.out];omega)).mono ?_
 rintro e w3 ⟨rfl,hM3,ho3⟩
 rw[xT.out]
 have HM3:=hide hM3
 have hz3:=ho3.size
 (try simp only[World.size_alloc,World.size_setCell,World.size_drew,World.heap_drewN]at hz3)
 have Y1:=ho3.same w.heap.size agA aM
 have hk3:=Y1.1
 have alD:=Y1.2
 have hl3:w.heap.size<w3.heap.size:=aB
 have alE:=dP.narrow (S':=fun x=>x∉(sF++(oU++(sG++(oj++(sH++(sI++sJ))))))) ho3 (fun x hx h=>hx (HI2.out x h))
 have ajp:=dP.narrow (S':=fun x=>x∈sF) ho3 (fun x hx=>TZ.out x hx)
 have ajq:=dP.narrow (S':=fun x=>x∈oU) ho3 (fun x hx=>Ue.out x hx)
 have ajr:=dP.narrow (S':=fun x=>x∈oj) ho3 (fun x hx=>abW.out x hx)
 have ajs:=dP.narrow (S':=fun x=>x∈sH) ho3 (fun x hx=>abX.out x hx)
 have ajt:=dP.narrow (S':=fun x=>x∈sI) ho3 (fun x hx=>abY.out x hx)
 have aju:=dP.narrow (S':=fun x=>x∈sJ) ho3 (fun x hx=>abZ.out x hx)
 clear Y1 ho3 hM3
 go_wp2_with (fail)
 refine (oV x3 oj _ A3 c3 _ (cL.gL (S:=fun x=>x∈oj) (w:=w) lL (fun x hx=>hx) G3.out) YX.out aB (by rw[xd.out];omega)).mono ?_
 rintro e w4 ⟨rfl,hM4,Sg⟩
 rw[xd.out]
 have HM4:=hide hM4
 have Sz:=Sg.size
 (try simp only[World.size_alloc,World.size_setCell,World.size_drew,World.heap_drewN]at Sz)
 have Y2:=Sg.same w.heap.size Y0 aM
 have hk4:=Y2.1
 have alG:=Y2.2
 have hl4:w.heap.size<w4.heap.size:=aB
 have alH:=dP.narrow (S':=fun x=>x∉(sF++(oU++(sG++(oj++(sH++(sI++sJ))))))) Sg (fun x hx h=>hx (HI3.out x h))
 have ajv:=dP.narrow (S':=fun x=>x∈sF) Sg (fun x hx=>Ua.out x hx)
 have ajw:=dP.narrow (S':=fun x=>x∈oU) Sg (fun x hx=>Uf.out x hx)
 have ajx:=dP.narrow (S':=fun x=>x∈sG) Sg (fun x hx=>Uj.out x hx)
 have ajy:=dP.narrow (S':=fun x=>x∈sH) Sg (fun x hx=>ab1.out x hx)
 have ajz:=dP.narrow (S':=fun x=>x∈sI) Sg (fun x hx=>ab2.out x hx)
 have ajA:=dP.narrow (S':=fun x=>x∈sJ) Sg (fun x hx=>ab3.out x hx)
 clear Y2 Sg hM4
 go_wp2_with (fail)
 refine (ma x6 sH _ A6 c6 _ (cL.gL (S:=fun x=>x∈sH) (w:=w) lL (fun x hx=>hx) G6.out) agw.out aB (by rw[Mi.out];omega)).mono ?_
 rintro e w5 ⟨rfl,hM5,Sh⟩
 rw[Mi.out]
 have HM5:=hide hM5
 have hz5:=Sh.size
 (try simp only[World.size_alloc,World.size_setCell,World.size_drew,World.heap_drewN]at hz5)
 have Y3:=Sh.same w.heap.size agB aM
 have hk5:=Y3.1
 have alJ:=Y3.2
 have hl5:w.heap.size<w5.heap.size:=aB
 have alK:=dP.narrow (S':=fun x=>x∉(sF++(oU++(sG++(oj++(sH++(sI++sJ))))))) Sh (fun x hx h=>hx (HI6.out x h))
 have ajC:=dP.narrow (S':=fun x=>x∈sF) Sh (fun x hx=>Ub.out x hx)
 have ajD:=dP.narrow (S':=fun x=>x∈oU) Sh (fun x hx=>Ug.out x hx)
 have ajE:=dP.narrow (S':=fun x=>x∈sG) Sh (fun x hx=>Uk.out x hx)
 have ajF:=dP.narrow (S':=fun x=>x∈oj) Sh (fun x hx=>Un.out x hx)
 have ajG:=dP.narrow (S':=fun x=>x∈sI) Sh (fun x hx=>ab4.out x hx)
 have ajH:=dP.narrow (S':=fun x=>x∈sJ) Sh (fun x hx=>ab5.out x hx)
 clear Y3 Sh hM5
 go_wp2_with (fail)
 refine (ma x7 sI _ A7 c7 _ (cL.gL (S:=fun x=>x∈sI) (w:=w) lL (fun x hx=>hx) G7.out) agx.out aB (by rw[Sf.out];omega)).mono ?_
 rintro e w6 ⟨rfl,hM6,Si⟩
 rw[Sf.out]
 have HM6:=hide hM6
 have Sj:=Si.size
 (try simp only[World.size_alloc,World.size_setCell,World.size_drew,World.heap_drewN]at Sj)
 have Y4:=Si.same w.heap.size agC aM
 have hk6:=Y4.1
 have alM:=Y4.2
 have SA:w.heap.size<w6.heap.size:=aB
 have alN:=dP.narrow (S':=fun x=>x∉(sF++(oU++(sG++(oj++(sH++(sI++sJ))))))) Si (fun x hx h=>hx (HI7.out x h))
 have ajJ:=dP.narrow (S':=fun x=>x∈sF) Si (fun x hx=>Uc.out x hx)
 have ajK:=dP.narrow (S':=fun x=>x∈oU) Si (fun x hx=>Uh.out x hx)
 have ajL:=dP.narrow (S':=fun x=>x∈sG) Si (fun x hx=>Ul.out x hx)
 have ajM:=dP.narrow (S':=fun x=>x∈oj) Si (fun x hx=>Uo.out x hx)
 have ajN:=dP.narrow (S':=fun x=>x∈sH) Si (fun x hx=>Uq.out x hx)
 have ajO:=dP.narrow (S':=fun x=>x∈sJ) Si (fun x hx=>ab6.out x hx)
 clear Y4 Si hM6
 go_wp2_with (fail)
 refine (zu x8 sJ _ A8 c8 _ (cL.gL (S:=fun x=>x∈sJ) (w:=w) lL (fun x hx=>hx) G8.out) agy.out aB (by rw[HQ8.out];omega)).mono ?_
 rintro e w7 ⟨rfl,hM7,Sk⟩
 rw[HQ8.out]
 have HM7:=hide hM7
 have hz7:=Sk.size
 (try simp only[World.size_alloc,World.size_setCell,World.size_drew,World.heap_drewN]at hz7)
 have Y5:=Sk.same w.heap.size agD aM
 have hk7:=Y5.1
 have alP:=Y5.2
 have SD:w.heap.size<w7.heap.size:=aB
 have alQ:=dP.narrow (S':=fun x=>x∉(sF++(oU++(sG++(oj++(sH++(sI++sJ))))))) Sk (fun x hx h=>hx (HI8.out x h))
 have ajQ:=dP.narrow (S':=fun x=>x∈sF) Sk (fun x hx=>Ud.out x hx)
 have ajR:=dP.narrow (S':=fun x=>x∈oU) Sk (fun x hx=>Ui.out x hx)
 have ajS:=dP.narrow (S':=fun x=>x∈sG) Sk (fun x hx=>Um.out x hx)
 have ajT:=dP.narrow (S':=fun x=>x∈oj) Sk (fun x hx=>Up.out x hx)
 have ajU:=dP.narrow (S':=fun x=>x∈sH) Sk (fun x hx=>Ur.out x hx)
 have ajV:=dP.narrow (S':=fun x=>x∈sI) Sk (fun x hx=>Us.out x hx)
 clear Y5 Sk hM7
 go_wp2_with (fail)
 go_returns
 refine⟨?_,⟨_,_,_,_,_,_,_,_,_,_,_,_,_,_,_,_,_,_,_,_,_,rfl,rfl,?_,?_,?_,?_,?_,?_,?_⟩,lL⟩
 ·
  (try simp only[Int.natCast_add,Int.add_assoc]);first | done | rfl | (congr 3;omega)
 ·
  exact cL.gL (S:=fun x=>x∈sF) (w:=w1) lL (fun x hx=>hx) HM1.out
 ·
  rw[JT.out];exact cL.gL (S:=fun x=>x∈oU) (w:=w2) lL (fun x hx=>hx) HM2.out
 ·
  rw[JT.out,rA.out];exact cL.gL (S:=fun x=>x∈sG) (w:=w3) lL (fun x hx=>hx) HM3.out
 ·
  rw[JT.out,rA.out,xT.out];exact cL.gL (S:=fun x=>x∈oj) (w:=w4) lL (fun x hx=>hx) HM4.out
 ·
  rw[JT.out,rA.out,xT.out,xd.out];exact cL.gL (S:=fun x=>x∈sH) (w:=w5) lL (fun x hx=>hx) HM5.out
 ·
  rw[JT.out,rA.out,xT.out,xd.out,Mi.out];exact cL.gL (S:=fun x=>x∈sI) (w:=w6) lL (fun x hx=>hx) HM6.out
 ·
  rw[JT.out,rA.out,xT.out,xd.out,Mi.out,Sf.out];exact cL.gL (S:=fun x=>x∈sJ) (w:=w7) lL (fun x hx=>hx) HM7.out
theorem ta (t:cv) (L:List Nat) (w:World) (vs:List Value) (k:Int) (hv:cv.uz w L k vs t) (h0:0<=k) (hb:k+(t.mE:Nat)<=4611686018427387904) :
  Calls Tryz.prog 21 #[.agg vs.toArray,.int .i64 k] w fun e w'=>e=.returned (.int .i64 (k+(t.mE:Nat)))/\cE w w':=by
 obtain⟨x0,x1,x2,x3,x4,x5,x6,x7,x8,x9,x10,x11,x12⟩:=t
 simp only[cv.mE]at hb |-
 obtain⟨A0,c0,L0,A1,c1,L1,A2,c2,L2,A3,c3,L3,A6,c6,L6,A7,c7,L7,A8,c8,L8,-,rfl,g0,g1,g2,g3,g6,g7,g8⟩:=hv
 obtain⟨q0,hq0⟩:∃q,Dat.eh (x0.map (fun x=>[Dat.str x]))=q:=⟨_,rfl⟩
 obtain⟨q1,hq1⟩:∃q,Dat.eh (x1.map cA.D)=q:=⟨_,rfl⟩
 obtain⟨q2,hq2⟩:∃q,Dat.eh (x2.map cz.D)=q:=⟨_,rfl⟩
 obtain⟨q3,hq3⟩:∃q,Dat.eh (x3.map cw.D)=q:=⟨_,rfl⟩
 obtain⟨q6,hq6⟩:∃q,Dat.eh (x6.map (fun x=>[Dat.str x]))=q:=⟨_,rfl⟩
 obtain⟨q7,hq7⟩:∃q,Dat.eh (x7.map (fun x=>[Dat.str x]))=q:=⟨_,rfl⟩
 obtain⟨q8,hq8⟩:∃q,Dat.eh (x8.map cJ.D)=q:=⟨_,rfl⟩
 simp only[hq0,hq1,hq2,hq3,hq6,hq7,hq8]at hb g0 g1 g2 g3 g6 g7 g8 |-
 have G0:=hide g0
 have JT:=hide hq0
 have G1:=hide g1
 have rA:=hide hq1
 have G2:=hide g2
 have xT:=hide hq2
 have G3:=hide g3
 have xd:=hide hq3
 have G6:=hide g6
 have Mi:=hide hq6
 have G7:=hide g7
 have Sf:=hide hq7
 have G8:=hide g8
 have HQ8:=hide hq8
 clear g0 g1 g2 g3 g6 g7 g8 hq0 hq1 hq2 hq3 hq6 hq7 hq8
 go_enter Tryz.func21,Tryz.ntmps21
 go_wp2_with (fail)
 refine (mc x0 (fun _=>True) _ _ _ _ (cL.row (fun _ _=>trivial) (cL.bel bl G0.out)) aB (by rw[JT.out];omega)).mono ?_
 rintro e w1 ⟨rfl,hb1⟩;rw[JT.out];(have hz1:=hb1.sz;obtain⟨eA,fb,fc,fA⟩:=hb1.lay (w.heap.size))
 have dk1:decide (k+(q0:Int)<0)=false:=aD
 go_wp2_with (fail)
 refine (uC x1 (fun _=>True) _ _ _ _ (cL.row (fun _ _=>trivial) (cL.bel bl G1.out)) aB (by rw[rA.out];omega)).mono ?_
 rintro e w2 ⟨rfl,hb2⟩;rw[rA.out];(have hz2:=hb2.sz;obtain⟨gO,lJ,mG,mH⟩:=hb2.lay (w.heap.size))
 have dk2:decide (k+(q0:Int)+(q1:Int)<0)=false:=aD
 go_wp2_with (fail)
 refine (zv x2 (fun _=>True) _ _ _ _ (cL.row (fun _ _=>trivial) (cL.bel bl G2.out)) aB (by rw[xT.out];omega)).mono ?_
 rintro e w3 ⟨rfl,hb3⟩;rw[xT.out];(have hz3:=hb3.sz;obtain⟨jw,uK,zP,zQ⟩:=hb3.lay (w.heap.size))
 have dk3:decide (k+(q0:Int)+(q1:Int)+(q2:Int)<0)=false:=aD
 go_wp2_with (fail)
 refine (oW x3 (fun _=>True) _ _ _ _ (cL.row (fun _ _=>trivial) (cL.bel bl G3.out)) aB (by rw[xd.out];omega)).mono ?_
 rintro e w4 ⟨rfl,hb4⟩;rw[xd.out];(have Sz:=hb4.sz;obtain⟨oZ,xe,zR,zS⟩:=hb4.lay (w.heap.size))
 have dk4:decide (k+(q0:Int)+(q1:Int)+(q2:Int)+(q3:Int)<0)=false:=aD
 go_wp2_with (fail)
 refine (mc x6 (fun _=>True) _ _ _ _ (cL.row (fun _ _=>trivial) (cL.bel bl G6.out)) aB (by rw[Mi.out];omega)).mono ?_
 rintro e w5 ⟨rfl,hb5⟩;rw[Mi.out];(have hz5:=hb5.sz;obtain⟨tc,Cl,IB,IC⟩:=hb5.lay (w.heap.size))
 have dk5:decide (k+(q0:Int)+(q1:Int)+(q2:Int)+(q3:Int)+(q6:Int)<0)=false:=aD
 go_wp2_with (fail)
 refine (mc x7 (fun _=>True) _ _ _ _ (cL.row (fun _ _=>trivial) (cL.bel bl G7.out)) aB (by rw[Sf.out];omega)).mono ?_
 rintro e w6 ⟨rfl,hb6⟩;rw[Sf.out];(have Sj:=hb6.sz;obtain⟨uL,Cm,ID,IE⟩:=hb6.lay (w.heap.size))
 have dk6:decide (k+(q0:Int)+(q1:Int)+(q2:Int)+(q3:Int)+(q6:Int)+(q7:Int)<0)=false:=aD
 go_wp2_with (fail)
 refine (zw x8 (fun _=>True) _ _ _ _ (cL.row (fun _ _=>trivial) (cL.bel bl G8.out)) aB (by rw[HQ8.out];omega)).mono ?_
 rintro e w7 ⟨rfl,hb7⟩;rw[HQ8.out];(have hz7:=hb7.sz;obtain⟨IF,IG,II,IJ⟩:=hb7.lay (w.heap.size))
 have dk7:decide (k+(q0:Int)+(q1:Int)+(q2:Int)+(q3:Int)+(q6:Int)+(q7:Int)+(q8:Int)<0)=false:=aD
 go_wp2_with (fail)
 all_goals
  go_returns
  exact⟨by (try simp only[Int.natCast_add,Int.add_assoc]);first | done | rfl | (congr 3;omega),bl⟩
end Go.Proofs.YtjngkknbpfgdcaaGreatDoor
