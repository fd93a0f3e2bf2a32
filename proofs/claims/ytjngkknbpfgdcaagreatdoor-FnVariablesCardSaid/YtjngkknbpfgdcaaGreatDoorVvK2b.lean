import Derived.Test.YtjngkknbpfgdcaaGreatDoorVvK0
import Derived.Test.YtjngkknbpfgdcaaGreatDoorVvShelf
set_option linter.unusedVariables false
set_option linter.unusedSimpArgs false
set_option maxRecDepth 100000
set_option maxHeartbeats 8000000
namespace Go.Proofs.YtjngkknbpfgdcaaGreatDoor
open Go.RowKit
theorem D0 {N:Nat} {w:World}:∀(l:List o7),gL N w l->∃Ms:List (List Nat),Ms.length=l.length/\(∀(i:Nat) (e:o7),l[i]?=some e->∃A c M,Ms[i]?=some M/\e.v=.slice A e.ds.length c/\du w M e.k A c e.ds)/\Ms.flatten.Nodup/\∀b,b∈Ms.flatten->∃e∈l,iG e.v e.L b
 | [],_=>⟨[],rfl,fun i e h=>by simp at h,List.nodup_nil,fun b hb=>by simp at hb⟩
 | x :: r,h=>by
  have hp:=List.pairwise_cons.1 h.sep
  obtain⟨Ms,h1,h2,h3,h4⟩:=D0 r ⟨fun e he=>h.own e (List.mem_cons_of_mem _ he),fun e he=>h.low e (List.mem_cons_of_mem _ he),hp.2⟩
  obtain⟨A,c,M,e1,e2,e3,e4⟩:=dK.ownRow (h.own x (List.mem_cons_self ..))
  refine⟨M :: Ms,by simp[h1],fun i e he=>?_,?_,fun b hb=>?_⟩
  ·
   cases i with
   | zero =>
    obtain rfl:x=e:=by simpa using he
    exact⟨A,c,M,rfl,e1,e2⟩
   | succ i=>exact h2 i e (by simpa using he)
  ·
   rw[List.flatten_cons]
   exact ke e3 h3 (fun a ha hb=>by obtain⟨e,he,hq⟩:=h4 a hb;exact hp.1 e he a (e4 a ha) hq)
  ·
   rw[List.flatten_cons]at hb
   rcases List.mem_append.1 hb with hb | hb
   ·
    exact⟨x,List.mem_cons_self ..,e4 b hb⟩
   ·
    obtain⟨e,he,hq⟩:=h4 b hb
    exact⟨e,List.mem_cons_of_mem _ he,hq⟩
theorem G5 {N:Nat} {w:World} {x0:List cx} {x1:List cw} {x2:List cr} {x3:List R} {x4:cx} {x5:Int} {x6 x7:List cx} {x8:List cV} {x9:Bool} {F G Z:Int} {v0 v1 v2 v3 v6 v7 v8:Value} {L0 L1 L2 L3 L6 L7 L8:List Nat} (h:gL N w [⟨9,1,v0,L0,x0.map (fun x=>[Y.str x])⟩,⟨109,3,v1,L1,x1.map cw.D⟩,⟨81,5,v2,L2,x2.map cr.D⟩,⟨34,6,v3,L3,x3.map R.D⟩,⟨9,1,v6,L6,x6.map (fun x=>[Y.str x])⟩,⟨9,1,v7,L7,x7.map (fun x=>[Y.str x])⟩,⟨76,2,v8,L8,x8.map cV.D⟩]) (h4:x4.size<=maxLen) (h5:dT x5) (Be:dT F) (CU:dT G) (CV:dT Z):∃L,Y.dh w L (O.mk x0 x1 x2 x3 x4 x5 x6 x7 x8 x9 F G Z).D [v0,v1,v2,v3,.string x4,.int .i64 x5,v6,v7,v8,.bool x9,.int .i64 F,.int .i64 G,.int .i64 Z]/\L.Nodup/\∀b,b∈L->N<=b:=by
 obtain⟨Ms,hlen,yc,DJ,gf⟩:=D0 _ h
 obtain⟨M0,M1,M2,M3,M6,M7,M8,rfl⟩:∃M0 M1 M2 M3 M6 M7 M8,Ms=[M0,M1,M2,M3,M6,M7,M8]:=by match Ms,hlen with | [M0,M1,M2,M3,M6,M7,M8],_=>exact⟨_,_,_,_,_,_,_,rfl⟩
 obtain⟨A0,c0,M,hM,e0,r0⟩:=yc 0 _ rfl
 obtain rfl:=Option.some.inj (show some M0=some M from hM)
 replace e0:v0=.slice A0 (x0.map (fun x=>[Y.str x])).length c0:=e0
 rw[ar]at e0
 subst e0
 obtain⟨A1,c1,M,hM,e1,r1⟩:=yc 1 _ rfl
 obtain rfl:=Option.some.inj (show some M1=some M from hM)
 replace e1:v1=.slice A1 (x1.map cw.D).length c1:=e1
 rw[ar]at e1
 subst e1
 obtain⟨A2,c2,M,hM,e2,r2⟩:=yc 2 _ rfl
 obtain rfl:=Option.some.inj (show some M2=some M from hM)
 replace e2:v2=.slice A2 (x2.map cr.D).length c2:=e2
 rw[ar]at e2
 subst e2
 obtain⟨A3,c3,M,hM,e3,r3⟩:=yc 3 _ rfl
 obtain rfl:=Option.some.inj (show some M3=some M from hM)
 replace e3:v3=.slice A3 (x3.map R.D).length c3:=e3
 rw[ar]at e3
 subst e3
 obtain⟨A6,c6,M,hM,e6,r6⟩:=yc 4 _ rfl
 obtain rfl:=Option.some.inj (show some M6=some M from hM)
 replace e6:v6=.slice A6 (x6.map (fun x=>[Y.str x])).length c6:=e6
 rw[ar]at e6
 subst e6
 obtain⟨A7,c7,M,hM,e7,r7⟩:=yc 5 _ rfl
 obtain rfl:=Option.some.inj (show some M7=some M from hM)
 replace e7:v7=.slice A7 (x7.map (fun x=>[Y.str x])).length c7:=e7
 rw[ar]at e7
 subst e7
 obtain⟨A8,c8,M,hM,e8,r8⟩:=yc 6 _ rfl
 obtain rfl:=Option.some.inj (show some M8=some M from hM)
 replace e8:v8=.slice A8 (x8.map cV.D).length c8:=e8
 rw[ar]at e8
 subst e8
 have Uc:[M0,M1,M2,M3,M6,M7,M8].flatten=M0++(M1++(M2++(M3++(M6++(M7++M8))))):=aJ
 rw[Uc]at DJ gf
 exact⟨_,O.kL r0 r1 r2 r3 h4 h5 r6 r7 r8 Be CU CV,DJ,fun b hb=>by obtain⟨e,he,hq⟩:=gf b hb;exact h.low e he b hq⟩
theorem Z6.block {w w':World} {b:Nat} (h:Z6 w b) (hs:w.heap.size<=w'.heap.size) (hb:w'.heap[b]?=w.heap[b]?):Z6 w' b:=by
 obtain⟨c0,c1,c2,c3,c4,c5,f,l⟩:=h
 have e:∀o,w'.cell? ⟨b,o,none⟩=w.cell? ⟨b,o,none⟩:=fun o=>World.cell?_of_block hb
 exact⟨(e 0).trans c0,(e 1).trans c1,(e 2).trans c2,(e 3).trans c3,(e 4).trans c4,(e 5).trans c5,fun o=>(World.frozen?_of_block hb).trans (f o),by omega⟩
structure vj (r:Nat) (w w':World):Prop where
 size:w'.heap.size=w.heap.size
 os:w'.os=w.os
 tape:w'.tape=w.tape
 output:w'.output=w.output
 block:∀k,k≠r->w'.heap[k]?=w.heap[k]?
theorem vj.set {r:Nat} {w w':World} (h:vj r w w') (o:Nat) (u:Value):vj r w (w'.setCell ⟨r,o,none⟩ u):=by
 have hB:Below r w' (w'.setCell ⟨r,o,none⟩ u):=Below.setCell (Below.refl r w') (Nat.le_refl r) _
 exact⟨by simpa using h.size,hB.os.trans h.os,hB.tape.trans h.tape,hB.output.trans h.output,fun k hk=>(dY o u (fun e=>hk e.symm)).trans (h.block k hk)⟩
structure V6 (w:World) (b:Nat) (k n i:Int) (t:cx) (lo hi:Int):Prop where
 lt:b<w.heap.size
 fr:∀o,w.frozen? ⟨b,o,none⟩=false
 c0:w.cell? ⟨b,0,none⟩=some (.int .i64 k)
 c1:w.cell? ⟨b,1,none⟩=some (.int .i64 n)
 c2:w.cell? ⟨b,2,none⟩=some (.int .i64 i)
 c3:w.cell? ⟨b,3,none⟩=some (.string t)
 c4:w.cell? ⟨b,4,none⟩=some (.int .i64 lo)
 c5:w.cell? ⟨b,5,none⟩=some (.int .i64 hi)
theorem V6.block {w w':World} {b:Nat} {k n i:Int} {t:cx} {lo hi:Int} (h:V6 w b k n i t lo hi) (hs:w.heap.size<=w'.heap.size) (hb:w'.heap[b]?=w.heap[b]?):V6 w' b k n i t lo hi:=by
 have e:∀o,w'.cell? ⟨b,o,none⟩=w.cell? ⟨b,o,none⟩:=fun o=>World.cell?_of_block hb
 exact⟨au h.lt hs,fun o=>(World.frozen?_of_block hb).trans (h.fr o),(e 0).trans h.c0,(e 1).trans h.c1,(e 2).trans h.c2,(e 3).trans h.c3,(e 4).trans h.c4,(e 5).trans h.c5⟩
theorem V6.on {w w':World} {b:Nat} {k n i:Int} {t:cx} {lo hi:Int} (h:V6 w b k n i t lo hi) (k':U w w'):V6 w' b k n i t lo hi:=h.block k'.size (Below.block k' b h.lt)
theorem V6.new (w:World) (ty:TypeId) {k n i:Int} {t:cx} {lo hi:Int}:V6 (w.alloc (.cells #[.int .i64 k,.int .i64 n,.int .i64 i,.string t,.int .i64 lo,.int .i64 hi] ty)) w.heap.size k n i t lo hi:=⟨by simp,fun o=>by simp,by simp,by simp,by simp,by simp,by simp,by simp⟩
theorem V6.put {w:World} {b:Nat} {k n i:Int} {t:cx} {lo hi:Int} (h:V6 w b k n i t lo hi) (k2 n2 i2:Int) (t2:cx) (lo2 hi2:Int):V6 ((((((w.setCell ⟨b,0,none⟩ (.int .i64 k2)).setCell ⟨b,1,none⟩ (.int .i64 n2)).setCell ⟨b,2,none⟩ (.int .i64 i2)).setCell ⟨b,3,none⟩ (.string t2)).setCell ⟨b,4,none⟩ (.int .i64 lo2)).setCell ⟨b,5,none⟩ (.int .i64 hi2)) b k2 n2 i2 t2 lo2 hi2:=by
 obtain⟨l,f,c0,c1,c2,c3,c4,c5⟩:=h
 exact⟨by simpa using l,fun o=>by simp[f],by simp[c0,go_sem],by simp[c1,go_sem],by simp[c2,go_sem],by simp[c3,go_sem],by simp[c4,go_sem],by simp[c5,go_sem]⟩
theorem V6.td {w:World} {b b':Nat} {k n i:Int} {t:cx} {lo hi:Int} (h:V6 w b k n i t lo hi) (hn:b'≠b) (o:Nat) (u:Value):V6 (w.setCell ⟨b',o,none⟩ u) b k n i t lo hi:=h.block aJ (dY o u hn)
def VBx (w:World) (b:Nat) (k n i:Int) (t:cx) (lo hi:Int):Prop:=b<w.heap.size/\w.cell? ⟨b,0,none⟩=some (.int .i64 k)/\w.cell? ⟨b,1,none⟩=some (.int .i64 n)/\w.cell? ⟨b,2,none⟩=some (.int .i64 i)/\w.cell? ⟨b,3,none⟩=some (.string t)/\w.cell? ⟨b,4,none⟩=some (.int .i64 lo)/\w.cell? ⟨b,5,none⟩=some (.int .i64 hi)
theorem VBx.block {w w':World} {b:Nat} {k n i lo hi:Int} {t:cx} (h:VBx w b k n i t lo hi) (hs:w.heap.size<=w'.heap.size) (hb:w'.heap[b]?=w.heap[b]?):VBx w' b k n i t lo hi:=by
 obtain⟨l,c0,c1,c2,c3,c4,c5⟩:=h
 have e:∀o,w'.cell? ⟨b,o,none⟩=w.cell? ⟨b,o,none⟩:=fun o=>World.cell?_of_block hb
 exact⟨by omega,(e 0).trans c0,(e 1).trans c1,(e 2).trans c2,(e 3).trans c3,(e 4).trans c4,(e 5).trans c5⟩
theorem VBx.on {w w':World} {b:Nat} {k n i lo hi:Int} {t:cx} (h:VBx w b k n i t lo hi) (k':U w w'):VBx w' b k n i t lo hi:=h.block k'.size (Below.block k' b h.1)
theorem Mj (w:World):Y.dh w ([]++([]++([]++([]++([]++([]++[])))))) sY.D [.slice none 0 0,.slice none 0 0,.slice none 0 0,.slice none 0 0,.string ByteArray.empty,.int .i64 0,.slice none 0 0,.slice none 0 0,.slice none 0 0,.bool false,.int .i64 0,.int .i64 0,.int .i64 0]:=by
 have z:du w [] 1 none 0 []:=du.nil w 1 none 0 (Nat.zero_le _)
 have i0:dT 0:=aO
 exact O.kL (x0:=[]) (x1:=[]) (x2:=[]) (x3:=[]) (x4:=ByteArray.empty) (x5:=0) (x6:=[]) (x7:=[]) (x8:=[]) (x9:=false) (F:=0) (G:=0) (Z:=0) z (du.nil w 3 none 0 (Nat.zero_le _)) (du.nil w 5 none 0 (Nat.zero_le _)) (du.nil w 6 none 0 (Nat.zero_le _)) (by show ByteArray.empty.size<=maxLen;exact Nat.zero_le _) i0 z z (du.nil w 2 none 0 (Nat.zero_le _)) i0 i0 i0
theorem Ha {Q:Exit->Act->World->Prop} {ex:Exit} {a:Act} {W:World} (h:∀wz,W=wz->Q ex a wz):Q ex a W:=h W rfl
end Go.Proofs.YtjngkknbpfgdcaaGreatDoor
