/- Lists of record types copied, both sides. -/
import Derived.Test.YtehcjlkgfgpjnaaGreatDoorPOw
import Derived.Test.YtehcjlkgfgpjnaaGreatDoorPTV
import Derived.Test.YtehcjlkgfgpjnaaGreatDoorPMStringS
import Derived.Deep.RegionHeld3
import Derived.Deep.MidRow
import Derived.Deep.Cut
import Derived.Test.YtehcjlkgfgpjnaaGreatDoorPB
namespace Go.Proofs.YtehcjlkgfgpjnaaGreatDoor
set_option linter.unusedVariables false
set_option linter.unusedSimpArgs false
set_option maxRecDepth 100000
open Go.RowKit
theorem wp_named2 {P:Program} {c:Code} {Q:Exit→Act→World→Prop} {a:Act} {W:World} (h:∀wq,W=wq→Code.wp P c Q a wq):Code.wp P c Q a W:=h W rfl
end Go.Proofs.YtehcjlkgfgpjnaaGreatDoor
namespace Go.Proofs.YtehcjlkgfgpjnaaGreatDoor
set_option linter.unusedVariables false
set_option linter.unusedSimpArgs false
set_option maxRecDepth 100000
open Go.RowKit
theorem set_block {w:World} {b b':Nat} (o:Nat) (u:Value) (hn:b'≠b):(w.setCell ⟨b',o,none⟩ u).heap[b]?=w.heap[b]?:=by
 unfold World.setCell
 split
 all_goals
  show (w.heap.modify b' _)[b]?=_
  rw[Array.getElem?_modify,if_neg hn]
def SB (w:World) (b:Nat) (v0 v1 v2 v3 v4 v5 v6 v7 v8 v9 v10 v11 v12:Value):Prop:=b<w.heap.size∧(∀o,w.frozen? ⟨b,o,none⟩=false)∧w.cell? ⟨b,0,none⟩=some v0∧w.cell? ⟨b,1,none⟩=some v1∧w.cell? ⟨b,2,none⟩=some v2∧w.cell? ⟨b,3,none⟩=some v3∧w.cell? ⟨b,4,none⟩=some v4∧w.cell? ⟨b,5,none⟩=some v5∧w.cell? ⟨b,6,none⟩=some v6∧w.cell? ⟨b,7,none⟩=some v7∧w.cell? ⟨b,8,none⟩=some v8∧w.cell? ⟨b,9,none⟩=some v9∧w.cell? ⟨b,10,none⟩=some v10∧w.cell? ⟨b,11,none⟩=some v11∧w.cell? ⟨b,12,none⟩=some v12
section
variable {w w':World} {b:Nat} {v0 v1 v2 v3 v4 v5 v6 v7 v8 v9 v10 v11 v12:Value}
theorem SB.block (h:SB w b v0 v1 v2 v3 v4 v5 v6 v7 v8 v9 v10 v11 v12) (hs:w.heap.size≤w'.heap.size) (hb:w'.heap[b]?=w.heap[b]?):SB w' b v0 v1 v2 v3 v4 v5 v6 v7 v8 v9 v10 v11 v12:=by
 obtain⟨l,f,c0,c1,c2,c3,c4,c5,c6,c7,c8,c9,c10,c11,c12⟩:=h
 have e:∀o,w'.cell? ⟨b,o,none⟩=w.cell? ⟨b,o,none⟩:=fun o=>World.cell?_of_block hb
 exact⟨by omega,fun o=>(World.frozen?_of_block hb).trans (f o),(e 0).trans c0,(e 1).trans c1,(e 2).trans c2,(e 3).trans c3,(e 4).trans c4,(e 5).trans c5,(e 6).trans c6,(e 7).trans c7,(e 8).trans c8,(e 9).trans c9,(e 10).trans c10,(e 11).trans c11,(e 12).trans c12⟩
theorem SB.on (h:SB w b v0 v1 v2 v3 v4 v5 v6 v7 v8 v9 v10 v11 v12) (k:Bel w w'):SB w' b v0 v1 v2 v3 v4 v5 v6 v7 v8 v9 v10 v11 v12:=h.block k.size (Below.block k b h.1)
theorem SB.new (w:World) (t:TypeId):SB (w.alloc (.cells #[v0,v1,v2,v3,v4,v5,v6,v7,v8,v9,v10,v11,v12] t)) w.heap.size v0 v1 v2 v3 v4 v5 v6 v7 v8 v9 v10 v11 v12 :=
 ⟨by simp,fun o=>by simp,by simp,by simp,by simp,by simp,by simp,by simp,by simp,by simp,by simp,by simp,by simp,by simp,by simp⟩
theorem SB.far (h:SB w b v0 v1 v2 v3 v4 v5 v6 v7 v8 v9 v10 v11 v12) {b':Nat} (o:Nat) (u:Value) (hn:b'≠b):SB (w.setCell ⟨b',o,none⟩ u) b v0 v1 v2 v3 v4 v5 v6 v7 v8 v9 v10 v11 v12 :=
 h.block (by simp) (set_block o u hn)
theorem SB.put0 (h:SB w b v0 v1 v2 v3 v4 v5 v6 v7 v8 v9 v10 v11 v12) (u:Value):SB (w.setCell ⟨b,0,none⟩ u) b u v1 v2 v3 v4 v5 v6 v7 v8 v9 v10 v11 v12:=by
 obtain⟨l,f,c0,c1,c2,c3,c4,c5,c6,c7,c8,c9,c10,c11,c12⟩:=h
 exact⟨by simpa using l,fun o=>by simp[f],by simp[c0,go_sem],by simp[c1,go_sem],by simp[c2,go_sem],by simp[c3,go_sem],by simp[c4,go_sem],by simp[c5,go_sem],by simp[c6,go_sem],by simp[c7,go_sem],by simp[c8,go_sem],by simp[c9,go_sem],by simp[c10,go_sem],by simp[c11,go_sem],by simp[c12,go_sem]⟩
theorem SB.put1 (h:SB w b v0 v1 v2 v3 v4 v5 v6 v7 v8 v9 v10 v11 v12) (u:Value):SB (w.setCell ⟨b,1,none⟩ u) b v0 u v2 v3 v4 v5 v6 v7 v8 v9 v10 v11 v12:=by
 obtain⟨l,f,c0,c1,c2,c3,c4,c5,c6,c7,c8,c9,c10,c11,c12⟩:=h
 exact⟨by simpa using l,fun o=>by simp[f],by simp[c0,go_sem],by simp[c1,go_sem],by simp[c2,go_sem],by simp[c3,go_sem],by simp[c4,go_sem],by simp[c5,go_sem],by simp[c6,go_sem],by simp[c7,go_sem],by simp[c8,go_sem],by simp[c9,go_sem],by simp[c10,go_sem],by simp[c11,go_sem],by simp[c12,go_sem]⟩
theorem SB.put2 (h:SB w b v0 v1 v2 v3 v4 v5 v6 v7 v8 v9 v10 v11 v12) (u:Value):SB (w.setCell ⟨b,2,none⟩ u) b v0 v1 u v3 v4 v5 v6 v7 v8 v9 v10 v11 v12:=by
 obtain⟨l,f,c0,c1,c2,c3,c4,c5,c6,c7,c8,c9,c10,c11,c12⟩:=h
 exact⟨by simpa using l,fun o=>by simp[f],by simp[c0,go_sem],by simp[c1,go_sem],by simp[c2,go_sem],by simp[c3,go_sem],by simp[c4,go_sem],by simp[c5,go_sem],by simp[c6,go_sem],by simp[c7,go_sem],by simp[c8,go_sem],by simp[c9,go_sem],by simp[c10,go_sem],by simp[c11,go_sem],by simp[c12,go_sem]⟩
theorem SB.put3 (h:SB w b v0 v1 v2 v3 v4 v5 v6 v7 v8 v9 v10 v11 v12) (u:Value):SB (w.setCell ⟨b,3,none⟩ u) b v0 v1 v2 u v4 v5 v6 v7 v8 v9 v10 v11 v12:=by
 obtain⟨l,f,c0,c1,c2,c3,c4,c5,c6,c7,c8,c9,c10,c11,c12⟩:=h
 exact⟨by simpa using l,fun o=>by simp[f],by simp[c0,go_sem],by simp[c1,go_sem],by simp[c2,go_sem],by simp[c3,go_sem],by simp[c4,go_sem],by simp[c5,go_sem],by simp[c6,go_sem],by simp[c7,go_sem],by simp[c8,go_sem],by simp[c9,go_sem],by simp[c10,go_sem],by simp[c11,go_sem],by simp[c12,go_sem]⟩
theorem SB.put4 (h:SB w b v0 v1 v2 v3 v4 v5 v6 v7 v8 v9 v10 v11 v12) (u:Value):SB (w.setCell ⟨b,4,none⟩ u) b v0 v1 v2 v3 u v5 v6 v7 v8 v9 v10 v11 v12:=by
 obtain⟨l,f,c0,c1,c2,c3,c4,c5,c6,c7,c8,c9,c10,c11,c12⟩:=h
 exact⟨by simpa using l,fun o=>by simp[f],by simp[c0,go_sem],by simp[c1,go_sem],by simp[c2,go_sem],by simp[c3,go_sem],by simp[c4,go_sem],by simp[c5,go_sem],by simp[c6,go_sem],by simp[c7,go_sem],by simp[c8,go_sem],by simp[c9,go_sem],by simp[c10,go_sem],by simp[c11,go_sem],by simp[c12,go_sem]⟩
theorem SB.put5 (h:SB w b v0 v1 v2 v3 v4 v5 v6 v7 v8 v9 v10 v11 v12) (u:Value):SB (w.setCell ⟨b,5,none⟩ u) b v0 v1 v2 v3 v4 u v6 v7 v8 v9 v10 v11 v12:=by
 obtain⟨l,f,c0,c1,c2,c3,c4,c5,c6,c7,c8,c9,c10,c11,c12⟩:=h
 exact⟨by simpa using l,fun o=>by simp[f],by simp[c0,go_sem],by simp[c1,go_sem],by simp[c2,go_sem],by simp[c3,go_sem],by simp[c4,go_sem],by simp[c5,go_sem],by simp[c6,go_sem],by simp[c7,go_sem],by simp[c8,go_sem],by simp[c9,go_sem],by simp[c10,go_sem],by simp[c11,go_sem],by simp[c12,go_sem]⟩
theorem SB.put6 (h:SB w b v0 v1 v2 v3 v4 v5 v6 v7 v8 v9 v10 v11 v12) (u:Value):SB (w.setCell ⟨b,6,none⟩ u) b v0 v1 v2 v3 v4 v5 u v7 v8 v9 v10 v11 v12:=by
 obtain⟨l,f,c0,c1,c2,c3,c4,c5,c6,c7,c8,c9,c10,c11,c12⟩:=h
 exact⟨by simpa using l,fun o=>by simp[f],by simp[c0,go_sem],by simp[c1,go_sem],by simp[c2,go_sem],by simp[c3,go_sem],by simp[c4,go_sem],by simp[c5,go_sem],by simp[c6,go_sem],by simp[c7,go_sem],by simp[c8,go_sem],by simp[c9,go_sem],by simp[c10,go_sem],by simp[c11,go_sem],by simp[c12,go_sem]⟩
theorem SB.put7 (h:SB w b v0 v1 v2 v3 v4 v5 v6 v7 v8 v9 v10 v11 v12) (u:Value):SB (w.setCell ⟨b,7,none⟩ u) b v0 v1 v2 v3 v4 v5 v6 u v8 v9 v10 v11 v12:=by
 obtain⟨l,f,c0,c1,c2,c3,c4,c5,c6,c7,c8,c9,c10,c11,c12⟩:=h
 exact⟨by simpa using l,fun o=>by simp[f],by simp[c0,go_sem],by simp[c1,go_sem],by simp[c2,go_sem],by simp[c3,go_sem],by simp[c4,go_sem],by simp[c5,go_sem],by simp[c6,go_sem],by simp[c7,go_sem],by simp[c8,go_sem],by simp[c9,go_sem],by simp[c10,go_sem],by simp[c11,go_sem],by simp[c12,go_sem]⟩
theorem SB.put8 (h:SB w b v0 v1 v2 v3 v4 v5 v6 v7 v8 v9 v10 v11 v12) (u:Value):SB (w.setCell ⟨b,8,none⟩ u) b v0 v1 v2 v3 v4 v5 v6 v7 u v9 v10 v11 v12:=by
 obtain⟨l,f,c0,c1,c2,c3,c4,c5,c6,c7,c8,c9,c10,c11,c12⟩:=h
 exact⟨by simpa using l,fun o=>by simp[f],by simp[c0,go_sem],by simp[c1,go_sem],by simp[c2,go_sem],by simp[c3,go_sem],by simp[c4,go_sem],by simp[c5,go_sem],by simp[c6,go_sem],by simp[c7,go_sem],by simp[c8,go_sem],by simp[c9,go_sem],by simp[c10,go_sem],by simp[c11,go_sem],by simp[c12,go_sem]⟩
theorem SB.put9 (h:SB w b v0 v1 v2 v3 v4 v5 v6 v7 v8 v9 v10 v11 v12) (u:Value):SB (w.setCell ⟨b,9,none⟩ u) b v0 v1 v2 v3 v4 v5 v6 v7 v8 u v10 v11 v12:=by
 obtain⟨l,f,c0,c1,c2,c3,c4,c5,c6,c7,c8,c9,c10,c11,c12⟩:=h
 exact⟨by simpa using l,fun o=>by simp[f],by simp[c0,go_sem],by simp[c1,go_sem],by simp[c2,go_sem],by simp[c3,go_sem],by simp[c4,go_sem],by simp[c5,go_sem],by simp[c6,go_sem],by simp[c7,go_sem],by simp[c8,go_sem],by simp[c9,go_sem],by simp[c10,go_sem],by simp[c11,go_sem],by simp[c12,go_sem]⟩
theorem SB.put10 (h:SB w b v0 v1 v2 v3 v4 v5 v6 v7 v8 v9 v10 v11 v12) (u:Value):SB (w.setCell ⟨b,10,none⟩ u) b v0 v1 v2 v3 v4 v5 v6 v7 v8 v9 u v11 v12:=by
 obtain⟨l,f,c0,c1,c2,c3,c4,c5,c6,c7,c8,c9,c10,c11,c12⟩:=h
 exact⟨by simpa using l,fun o=>by simp[f],by simp[c0,go_sem],by simp[c1,go_sem],by simp[c2,go_sem],by simp[c3,go_sem],by simp[c4,go_sem],by simp[c5,go_sem],by simp[c6,go_sem],by simp[c7,go_sem],by simp[c8,go_sem],by simp[c9,go_sem],by simp[c10,go_sem],by simp[c11,go_sem],by simp[c12,go_sem]⟩
theorem SB.put11 (h:SB w b v0 v1 v2 v3 v4 v5 v6 v7 v8 v9 v10 v11 v12) (u:Value):SB (w.setCell ⟨b,11,none⟩ u) b v0 v1 v2 v3 v4 v5 v6 v7 v8 v9 v10 u v12:=by
 obtain⟨l,f,c0,c1,c2,c3,c4,c5,c6,c7,c8,c9,c10,c11,c12⟩:=h
 exact⟨by simpa using l,fun o=>by simp[f],by simp[c0,go_sem],by simp[c1,go_sem],by simp[c2,go_sem],by simp[c3,go_sem],by simp[c4,go_sem],by simp[c5,go_sem],by simp[c6,go_sem],by simp[c7,go_sem],by simp[c8,go_sem],by simp[c9,go_sem],by simp[c10,go_sem],by simp[c11,go_sem],by simp[c12,go_sem]⟩
theorem SB.put12 (h:SB w b v0 v1 v2 v3 v4 v5 v6 v7 v8 v9 v10 v11 v12) (u:Value):SB (w.setCell ⟨b,12,none⟩ u) b v0 v1 v2 v3 v4 v5 v6 v7 v8 v9 v10 v11 u:=by
 obtain⟨l,f,c0,c1,c2,c3,c4,c5,c6,c7,c8,c9,c10,c11,c12⟩:=h
 exact⟨by simpa using l,fun o=>by simp[f],by simp[c0,go_sem],by simp[c1,go_sem],by simp[c2,go_sem],by simp[c3,go_sem],by simp[c4,go_sem],by simp[c5,go_sem],by simp[c6,go_sem],by simp[c7,go_sem],by simp[c8,go_sem],by simp[c9,go_sem],by simp[c10,go_sem],by simp[c11,go_sem],by simp[c12,go_sem]⟩
theorem SB.there (h:SB w b v0 v1 v2 v3 v4 v5 v6 v7 v8 v9 v10 v11 v12):w.there b 0 13:=by
 obtain⟨l,f,c0,c1,c2,c3,c4,c5,c6,c7,c8,c9,c10,c11,c12⟩:=h
 intro j hj
 rcases (show j=0∨j=1∨j=2∨j=3∨j=4∨j=5∨j=6∨j=7∨j=8∨j=9∨j=10∨j=11∨j=12 by omega)with rfl | rfl | rfl | rfl | rfl | rfl | rfl | rfl | rfl | rfl | rfl | rfl | rfl
 all_goals exact⟨by simp[c0,c1,c2,c3,c4,c5,c6,c7,c8,c9,c10,c11,c12],f _⟩
end
theorem infoVal:(Tryz.prog.info? 48).map (fun i=>(i.zero,i.size,i.bytes))=some (some (.agg #[.int .i64 0,.int .i64 0,.int .i64 0,.string ByteArray.empty,.int .i64 0,.int .i64 0]),6,56):=by kernel_rfl
end Go.Proofs.YtehcjlkgfgpjnaaGreatDoor
namespace Go.Proofs.YtehcjlkgfgpjnaaGreatDoor
set_option linter.unusedVariables false
set_option linter.unusedSimpArgs false
set_option maxRecDepth 100000
open Go.RowKit
def waitsFor (ops:Array Oper) (j:Nat):List Nat:=match ops[j]? with
 | some o=>(o.after.toList.filter (fun e=>Region.binds .any e)).map (·.on)
 | none=>[]
def aheadOf (ops:Array Oper):Nat→List Nat→List Nat
 | 0,s=>s
 | f+1,s=>aheadOf ops f (s++s.flatMap (waitsFor ops)).eraseDups
def putF (u:Nat→Value):List (Option Tmp)→Nat→Act→Act
 | [],_,a=>a
 | d :: r,k,a=>putF u r (k+1) (a.put d (u k))
def idxD:List (Option Tmp)→Nat→List (Nat × Option Tmp)
 | [],_=>[]
 | d :: r,k=>(k,d) :: idxD r (k+1)
def putP (u:Nat→Value):List (Nat × Option Tmp)→Act→Act
 | [],a=>a
 | (k,d) :: r,a=>putP u r (a.put d (u k))
theorem putP_idx (u:Nat→Value):∀(l:List (Option Tmp)) (k:Nat) (a:Act),putP u (idxD l k) a=putF u l k a
 | [],_,_=>rfl
 | d :: r,k,a=>putP_idx u r (k+1) (a.put d (u k))
def dsts (ops:Array Oper):List (Option Tmp):=ops.toList.map (·.dst)
def updF (u:Nat→Value) (i:Nat) (v:Value):Nat→Value:=fun j=>if j=i then v else u j
def apartD:List (Option Tmp)→Bool
 | []=>true
 | d :: r=>(d.isNone||r.all (fun e=>e != d))&&apartD r
def formOk (ops:Array Oper) (m:Nat):Bool :=
 (List.range ops.size).all (fun j=>(waitsFor ops j).all (fun k=>decide (k<j)))&&apartD (dsts ops)&&(List.range m).all (fun j=>(aheadOf ops 12 [m]).contains j)&&decide (ops.size=m+1)&&ops.toList.all (fun o=>o.guard.isNone)
theorem putF_congr {u u':Nat→Value}:∀(l:List (Option Tmp)) (k:Nat) (a:Act),(∀j,k≤j→u j=u' j)→putF u l k a=putF u' l k a
 | [],_,_,_=>rfl
 | d :: r,k,a,h=>by
  simp only[putF]
  rw[h k (Nat.le_refl k)]
  exact putF_congr r (k+1) _ (fun j hj=>h j (by omega))
theorem put_put (a:Act) (d:Option Tmp) (x v:Value):(a.put d x).put d v=a.put d v:=by
 cases d with
 | none=>rfl
 | some t=>simp[Act.put]
theorem putF_put {u:Nat→Value} {d:Option Tmp} (v:Value):∀(l:List (Option Tmp)) (k:Nat) (a:Act),(d.isNone||l.all (fun e=>e != d))=true→(putF u l k a).put d v=putF u l k (a.put d v)
 | [],_,_,_=>rfl
 | e :: r,k,a,h=>by
  simp only[putF]
  have hr:(d.isNone||r.all (fun e=>e != d))=true:=by
   cases hd:d.isNone
   ·
    simp only[hd,Bool.false_or,List.all_cons,Bool.and_eq_true]at h ⊢
    exact h.2
   ·
    rfl
  rw[putF_put v r (k+1) _ hr]
  congr 1
  refine Act.put_comm a _ _ fun t ht hd=>?_
  subst hd
  simp[ht]at h
theorem putF_upd {u:Nat→Value} (v:Value):∀(l:List (Option Tmp)) (k i:Nat) (d:Option Tmp) (a:Act),apartD l=true→l[i]?=some d→(putF u l k a).put d v=putF (updF u (k+i) v) l k a
 | [],_,_,_,_,_,h=>by simp at h
 | e :: r,k,0,d,a,hp,h=>by
  obtain rfl:e=d:=by simpa using h
  simp only[apartD,Bool.and_eq_true]at hp
  simp only[putF]
  rw[putF_put v r (k+1) _ hp.1,put_put]
  have e2:updF u (k+0) v k=v:=by simp[updF]
  rw[e2]
  exact putF_congr r (k+1) _ (fun j hj=>by simp only[updF];rw[if_neg (by omega)])
 | e :: r,k,i+1,d,a,hp,h=>by
  simp only[apartD,Bool.and_eq_true]at hp
  simp only[putF]
  rw[putF_upd v r (k+1) i d _ hp.2 (by simpa using h),show k+1+i=k+(i+1) by omega]
  have e2:updF u (k+(i+1)) v k=u k:=by simp only[updF];rw[if_neg (by omega)]
  rw[e2]
theorem put_same (a:Act) (d:Option Tmp):a.put d ((d.map (fun t=>a.tmps.getD t undef)).getD undef)=a:=by
 cases d with
 | none=>rfl
 | some t =>
  simp only[Act.put,Option.map_some,Option.getD_some]
  congr 1
  refine Array.ext (by simp) fun i h1 h2=>?_
  rw[Array.getElem_setIfInBounds (by simpa using h2)]
  split
  ·
   rename_i e
   subst e
   simp[h2]
  ·
   rfl
theorem putF_same (a:Act):∀(l:List (Option Tmp)) (k:Nat) (u:Nat→Value),(∀i d,l[i]?=some d→u (k+i)=(d.map (fun t=>a.tmps.getD t undef)).getD undef)→putF u l k a=a
 | [],_,_,_=>rfl
 | d :: r,k,u,h=>by
  simp only[putF]
  have h0:=h 0 d (by simp)
  rw[Nat.add_zero]at h0
  rw[h0,put_same]
  exact putF_same a r (k+1) u (fun i e he=>by rw[show k+1+i=k+(i+1) by omega];exact h (i+1) e (by simpa using he))
theorem countP_lt {p p':Nat→Bool}:∀{l:List Nat} {i:Nat},i∈l→p i=true→p' i=false→(∀j,p' j=true→p j=true)→l.countP p'<l.countP p
 | x :: r,i,hm,h1,h2,h=>by
  rw[List.countP_cons,List.countP_cons]
  rcases List.mem_cons.1 hm with rfl | hm
  ·
   have:=List.countP_mono_left (l:=r) (fun j _ hj=>h j hj)
   simp only[h1,h2,if_true,Bool.false_eq_true,if_false]
   omega
  ·
   have:=countP_lt hm h1 h2 h
   cases q:p' x
   ·
    simp only[Bool.false_eq_true,if_false]
    split <;> omega
   ·
    simp only[h x q,if_true]
    omega
section
variable {P:Program} {ops:Array Oper} {Q:Exit→Act→World→Prop}
def ClosedL (ops:Array Oper) (listed:Array Bool):Prop:=∀j,listed.getD j false=true→∀k∈waitsFor ops j,listed.getD k false=true
theorem ahead_closed {listed:Array Bool} (hc:ClosedL ops listed):∀(f:Nat) (s:List Nat),(∀j∈s,listed.getD j false=true)→∀j∈aheadOf ops f s,listed.getD j false=true
 | 0,_,h,j,hj=>h j hj
 | f+1,s,h,j,hj=>ahead_closed hc f _ (fun i hi=>by
   rw[List.mem_eraseDups,List.mem_append]at hi
   rcases hi with hi | hi
   ·
    exact h i hi
   ·
    obtain⟨k,hk,hki⟩:=List.mem_flatMap.1 hi
    exact hc k (h k hk) i hki) j hj
theorem waits_ready {j:Nat} {listed:Array Bool} (h:j∈Region.ready .any ops listed):∀k∈waitsFor ops j,listed.getD k false=true:=by
 obtain⟨-,o,ho,hall⟩:=mem_ready.1 h
 intro k hk
 unfold waitsFor at hk
 rw[ho]at hk
 simp only[List.mem_map,List.mem_filter,Array.mem_toList_iff]at hk
 obtain⟨e,⟨he,hb⟩,rfl⟩:=hk
 exact hall e he hb
theorem getD_true_of {l:Array Bool} {j:Nat} (h:j<l.size) (d:Bool):l.getD j d=l[j]:=by simp[h]
theorem closed_set {listed:Array Bool} {i:Nat} (hc:ClosedL ops listed) (hr:i∈Region.ready .any ops listed):ClosedL ops (listed.setIfInBounds i true):=by
 intro j hj k hk
 refine getD_set_true ?_
 by_cases h:i=j
 ·
  subst h
  exact waits_ready hr k hk
 ·
  rw[getD_set_ne false h]at hj
  exact hc j hj k hk
theorem ready_nil {listed:Array Bool} (hw:∀j,j<ops.size→∀k∈waitsFor ops j,k<j) (hs:listed.size=ops.size) (hr:Region.ready .any ops listed=[]):∀(n j:Nat),j<n→j<ops.size→listed.getD j false=true
 | 0,_,h,_=>by omega
 | n+1,j,h,hj=>by
  cases hb:listed.getD j false with
  | true=>rfl
  | false =>
   exfalso
   have hm:j∈Region.ready .any ops listed:=by
    refine mem_ready.2 ⟨by rw[getD_true_of (by omega)]at hb ⊢;exact hb,ops[j],Array.getElem?_eq_getElem hj,fun e he hbn=>?_⟩
    have hk:e.on∈waitsFor ops j:=by
     unfold waitsFor
     rw[Array.getElem?_eq_getElem hj]
     exact List.mem_map.2 ⟨e,List.mem_filter.2 ⟨Array.mem_toList_iff.2 he,hbn⟩,rfl⟩
    have:=hw j hj _ hk
    exact ready_nil hw hs hr n e.on (by omega) (by omega)
   rw[hr]at hm
   cases hm
theorem g0_of {X Y:Prop} {b:Bool} (hG:X∨(Y∧b=false)) (h:b=true):X:=hG.resolve_right fun q=>by rw[h]at q;cases q.2
end
end Go.Proofs.YtehcjlkgfgpjnaaGreatDoor
namespace Go.Proofs.YtehcjlkgfgpjnaaGreatDoor
set_option linter.unusedVariables false
set_option linter.unusedSimpArgs false
set_option maxRecDepth 100000
open Go.RowKit
def maskU (dep:Nat→List Nat) (j:Nat) (u:Nat→Value):Nat→Value:=fun k=>if k=j∨(dep j).contains k=true then u k else undef
def depOk (ops:Array Oper) (dep:Nat→List Nat) (m:Nat):Bool:=(List.range m).all (fun j=>(dep j).all (fun k=>(aheadOf ops 12 (waitsFor ops j)).contains k))
theorem maskU_upd {dep:Nat→List Nat} {i j:Nat} {u:Nat→Value} {v:Value} (hj:j≠i) (hd:(dep j).contains i=false):maskU dep j (updF u i v)=maskU dep j u:=by
 funext k
 unfold maskU
 by_cases h:k=j∨(dep j).contains k=true
 ·
  rw[if_pos h,if_pos h]
  unfold updF
  rw[if_neg]
  rintro rfl
  rcases h with h | h
  ·
   exact hj h.symm
  ·
   rw[hd]at h;cases h
 ·
  rw[if_neg h,if_neg h]
section
variable {P:Program} {ops:Array Oper} {Q:Exit→Act→World→Prop}
def StU (ops:Array Oper) (dep:Nat→List Nat) (φ:Nat→(Nat→Value)→World→Prop) (G0 G1:World→Prop) (p:Nat) (base:Act) (listed:Array Bool) (a:Act) (w:World):Prop :=
 ∃u,a=putF u (dsts ops) 0 base∧(listed.getD p false=false→G0 w)∧(listed.getD p false=true→G1 w)∧∀j,listed.getD j false=true→φ j (maskU dep j u) w
def StepU (P:Program) (ops:Array Oper) (Q:Exit→Act→World→Prop) (dep:Nat→List Nat) (φ:Nat→(Nat→Value)→World→Prop) (R:World→World→Prop) (G0 G1:World→Prop) (p:Nat) (T:(Nat→Value)→Act) (i:Nat) (o:Oper):Prop :=
 ∀(u:Nat→Value) (w:World),G0 w∨(G1 w∧(aheadOf ops 12 [p]).contains i=false)→(∀j,(aheadOf ops 12 (waitsFor ops i)).contains j=true→φ j (maskU dep j u) w)→∀K:Act→World→Prop,
  Shut (∀v w',R w w'→φ i (maskU dep i (updF u i v)) w'→K ((T u).put o.dst v) w')→Oper.wp P o (T u) w K Q
theorem stepsU_nil {ops:Array Oper} {dep:Nat→List Nat} {φ:Nat→(Nat→Value)→World→Prop} {R:World→World→Prop} {G0 G1:World→Prop} {p:Nat} {T:(Nat→Value)→Act} {i m:Nat} (h:m≤i):∀j,i≤j→j<m→∀o,ops[j]?=some o→j≠p→StepU P ops Q dep φ R G0 G1 p T j o:=fun j h1 h2=>by omega
theorem stepsU_skip {ops:Array Oper} {dep:Nat→List Nat} {φ:Nat→(Nat→Value)→World→Prop} {R:World→World→Prop} {G0 G1:World→Prop} {p p2:Nat} {T:(Nat→Value)→Act} {m:Nat}
  (hs:∀j,p2≤j→j<m→∀o,ops[j]?=some o→j≠p→StepU P ops Q dep φ R G0 G1 p T j o) (h2:p2=p+1:=by rfl):∀j,p≤j→j<m→∀o,ops[j]?=some o→j≠p→StepU P ops Q dep φ R G0 G1 p T j o:=fun j h1 h3 o ho hp=>hs j (by omega) h3 o ho hp
theorem stepsU_cons {ops:Array Oper} {dep:Nat→List Nat} {φ:Nat→(Nat→Value)→World→Prop} {R:World→World→Prop} {G0 G1:World→Prop} {p:Nat} {T:(Nat→Value)→Act} {i i2 m:Nat} {o:Oper} (ho:ops[i]?=some o) (h:StepU P ops Q dep φ R G0 G1 p T i o)
  (hs:∀j,i2≤j→j<m→∀o,ops[j]?=some o→j≠p→StepU P ops Q dep φ R G0 G1 p T j o) (hi:i2=i+1:=by rfl):∀j,i≤j→j<m→∀o,ops[j]?=some o→j≠p→StepU P ops Q dep φ R G0 G1 p T j o:=fun j h1 h2 o' ho' hp=>by
 rcases Nat.lt_or_ge i j with h3 | h3
 ·
  exact hs j (by omega) h2 o' ho' hp
 ·
  obtain rfl:j=i:=by omega
  rw[ho]at ho'
  obtain rfl:=Option.some.inj ho'
  exact h
theorem wp_region_factsU {id:Nat} {base:Act} {w:World} (m p:Nat) (dep:Nat→List Nat) (φ:Nat→(Nat→Value)→World→Prop) (R R':World→World→Prop) (G0 G1:World→Prop) (ds:List (Nat × Option Tmp)) {op ol:Oper} (hds:idxD (dsts ops) 0=ds)
  (hf:formOk ops m=true) (hdp:depOk ops dep m=true) (hm:P.follows .mixedOrders=true) (hpm:p<m) (hG:G0 w.drew) (hR:∀j (v:Nat→Value) w w',R w w'→φ j v w→φ j v w') (hR':∀j (v:Nat→Value) w w',j≠p→R' w w'→φ j v w→φ j v w') (hG0:∀w w',R w w'→G0 w→G0 w') (hG1:∀w w',R w w'→G1 w→G1 w')
  (hop:ops[p]?=some op) (hol:ops[m]?=some ol)
  (hstep:∀i,0≤i→i<m→∀o,ops[i]?=some o→i≠p→StepU P ops Q dep φ R G0 G1 p (fun u=>putP u ds base) i o)
  (hp:∀(u:Nat→Value) (w:World),G0 w→(∀j,(aheadOf ops 12 (waitsFor ops p)).contains j=true→φ j (maskU dep j u) w)→∀K:Act→World→Prop,
   Shut (∀v w',R' w w'→G1 w'→φ p (maskU dep p (updF u p v)) w'→K ((putP u ds base).put op.dst v) w') →
   Oper.wp P op (putP u ds base) w K Q)
  (hlast:∀(u:Nat→Value) (w:World),G1 w→(∀j,j<m→φ j (maskU dep j u) w)→∀K:Act→World→Prop,
   Shut (∀v w',Q .normal ((putP u ds base).put ol.dst v) w'→K ((putP u ds base).put ol.dst v) w') →
   Oper.wp P ol (putP u ds base) w K Q):(Code.region id ops true).wp P Q base w:=by
 subst hds
 simp only[putP_idx]at hstep hp hlast
 unfold depOk at hdp
 simp only[List.all_eq_true,List.mem_range]at hdp
 unfold formOk at hf
 simp only[Bool.and_eq_true,List.all_eq_true,List.mem_range,decide_eq_true_eq]at hf
 obtain⟨⟨⟨⟨hw,hap⟩,hall⟩,hsz⟩,hgd⟩:=hf
 have plain:∀(i:Nat) (o:Oper) (y:Nat→Option Bool),ops[i]?=some o→Region.wanted o y=true:=fun i o y ho=>by
  have h1:=hgd o (Array.mem_toList_iff.2 (Array.mem_of_getElem? ho))
  unfold Region.wanted
  cases hq:o.guard with
  | none=>rfl
  | some q=>rw[hq]at h1;cases h1
 have hlt:∀j,j<ops.size→∀k∈waitsFor ops j,k<j:=fun j hj k hk=>hw j hj k hk
 have hmem:∀listed:Array Bool,ClosedL ops listed→listed.getD m false=true→∀j,j<m→listed.getD j false=true:=fun listed hc h j hj =>
  ahead_closed hc 12 [m] (fun k hk=>by rw[List.mem_singleton.1 hk];exact h) j (by have:=hall j hj;simpa using this)
 have key:∀(fuel:Nat) (listed:Array Bool) (a:Act) (w:World),listed.size=ops.size→ClosedL ops listed→listed.getD m false=false→StU ops dep φ G0 G1 p base listed a w→(List.range ops.size).countP (fun j=>!listed.getD j true)≤fuel→wpAny P .any ops Q fuel listed a w:=by
  intro fuel
  induction fuel with
  | zero =>
   intro listed a w hs hc hl hI hn
   exfalso
   have h0:(List.range ops.size).countP (fun j=>!listed.getD j true)=0:=by omega
   rw[List.countP_eq_zero]at h0
   have:=h0 m (List.mem_range.2 (by omega))
   rw[getD_true_of (by omega)]at this hl
   rw[hl]at this
   exact this rfl
  | succ fuel ih =>
   intro listed a w hs hc hl hI hn
   refine⟨fun hr=>?_,fun i hi=>?_⟩
   ·
    have:=ready_nil hlt hs hr (m+1) m (by omega) (by omega)
    rw[this]at hl
    cases hl
   ·
    obtain⟨hjun,o,ho,-⟩:=mem_ready.1 hi
    have hi1:i<ops.size:=(Array.getElem?_eq_some_iff.1 ho).1
    have hif:listed.getD i false=false:=by rw[getD_true_of (by omega)]at hjun ⊢;exact hjun
    obtain⟨u,rfl,hg0,hg1,hφ⟩:=hI
    have hd:(dsts ops)[i]?=some o.dst:=by
     unfold dsts
     rw[List.getElem?_map,Array.getElem?_toList,ho]
     rfl
    have hput:∀v,(putF u (dsts ops) 0 base).put o.dst v=putF (updF u i v) (dsts ops) 0 base:=fun v=>by
     have:=putF_upd (u:=u) v (dsts ops) 0 i o.dst base hap hd
     rwa [Nat.zero_add]at this
    have hs2:(listed.setIfInBounds i true).size=ops.size:=by simpa using hs
    have hself:(listed.setIfInBounds i true).getD i false=true:=by rw[getD_true_of (by omega),Array.getElem_setIfInBounds_self]
    have hcn:(List.range ops.size).countP (fun j=>!(listed.setIfInBounds i true).getD j true)≤fuel:=by
     have:(List.range ops.size).countP (fun j=>!(listed.setIfInBounds i true).getD j true)<(List.range ops.size).countP (fun j=>!listed.getD j true):=by
      refine countP_lt (List.mem_range.2 hi1) (by rw[hjun];rfl) ?_ (fun j hj=>?_)
      ·
       rw[getD_true_of (by omega),Array.getElem_setIfInBounds_self]
       rfl
      ·
       by_cases h:i=j
       ·
        subst h;rw[hjun];rfl
       ·
        rw[getD_set_ne true h]at hj;exact hj
     omega
    have hjm:∀j,listed.getD j false=true→j<m:=fun j hj=>by
     rcases Nat.lt_or_ge j ops.size with h | h
     ·
      rcases Nat.lt_or_ge j m with h2 | h2
      ·
       exact h2
      ·
       obtain rfl:j=m:=by omega
       rw[hl]at hj;cases hj
     ·
      rw[Array.getD_eq_getD_getElem?,Array.getElem?_eq_none (by omega)]at hj
      cases hj
    have hdep:∀j,listed.getD j false=true→(dep j).contains i=false:=fun j hj=>by
     cases hb:(dep j).contains i with
     | false=>rfl
     | true =>
      have h3:=hdp j (hjm j hj) i (by simpa using hb)
      have h4:=ahead_closed hc 12 (waitsFor ops j) (fun k hk=>hc j hj k hk) i (by simpa using h3)
      rw[hif]at h4;cases h4
    have hfacts:∀j,(aheadOf ops 12 (waitsFor ops i)).contains j=true→φ j (maskU dep j u) w:=fun j hj=>hφ j (ahead_closed hc 12 _ (waits_ready hi) j (by simpa using hj))
    have nextφ:∀(v:Value) w',φ i (maskU dep i (updF u i v)) w'→(∀j,j≠i→listed.getD j false=true→φ j (maskU dep j u) w')→∀j,(listed.setIfInBounds i true).getD j false=true→φ j (maskU dep j (updF u i v)) w':=fun v w' hv hk j hj=>by
     by_cases h:i=j
     ·
      subst h
      exact hv
     ·
      rw[getD_set_ne false h]at hj
      rw[maskU_upd (fun e=>h e.symm) (hdep j hj)]
      exact hk j (fun e=>h e.symm) hj
    by_cases him:i=m
    ·
     subst him
     have hol':o=ol:=by rw[ho]at hol;exact Option.some.inj hol
     subst hol'
     have hall4:∀j,j<i→listed.getD j false=true:=fun j hj=>by
      have h3:=hmem _ (closed_set hc hi) hself j hj
      rwa [getD_set_ne false (by omega)]at h3
     have hall2:∀j,j<i→φ j (maskU dep j u) w:=fun j hj=>hφ j (hall4 j hj)
     have hall3:∀j,j<ops.size→(listed.setIfInBounds i true).getD j false=true:=fun j hj=>by
      rcases Nat.lt_or_ge j i with h | h
      ·
       exact hmem _ (closed_set hc hi) hself j h
      ·
       obtain rfl:j=i:=by omega
       exact hself
     have hnil:Region.ready .any ops (listed.setIfInBounds i true)=[]:=by
      refine List.eq_nil_iff_forall_not_mem.2 fun k hk=>?_
      obtain⟨h1,ok,hok,-⟩:=mem_ready.1 hk
      have hk1:k<ops.size:=(Array.getElem?_eq_some_iff.1 hok).1
      have h2:=hall3 k hk1
      rw[getD_true_of (by omega)]at h1 h2
      rw[h2]at h1
      cases h1
     exact wpOp_step ho fun K' hK=>(if_pos (plain _ _ _ ho)).mpr <| hlast u w (hg1 (hall4 p hpm)) hall2 K' (fun v w' hq=>hK _ _ (wpAny_done hnil hq _))
    ·
     have him2:(listed.setIfInBounds i true).getD m false=false:=by rw[getD_set_ne false him];exact hl
     by_cases hip:i=p
     ·
      subst hip
      have hop':o=op:=by rw[ho]at hop;exact Option.some.inj hop
      subst hop'
      refine wpOp_step ho fun K' hK=>(if_pos (plain _ _ _ ho)).mpr <| hp u w (hg0 hif) hfacts K' (fun v w' hRw hGw hv=>hK _ _ ?_)
      exact ih _ _ _ hs2 (closed_set hc hi) him2 ⟨updF u i v,hput v,fun h=>(by rw[hself]at h;cases h),fun _=>hGw,nextφ v w' hv (fun j hj hl=>hR' j _ _ _ hj hRw (hφ j hl))⟩ hcn
     ·
      refine wpOp_step ho fun K' hK=>(if_pos (plain _ _ _ ho)).mpr <| hstep i (Nat.zero_le _) (by omega) o ho hip u w ?_ hfacts K' (fun v w' hRw hv=>hK _ _ ?_)
      ·
       cases hpl:listed.getD p false with
       | false=>exact Or.inl (hg0 hpl)
       | true =>
        refine Or.inr ⟨hg1 hpl,?_⟩
        cases hb:(aheadOf ops 12 [p]).contains i with
        | false=>rfl
        | true =>
         have h3:=ahead_closed hc 12 [p] (fun k hk=>by rw[List.mem_singleton.1 hk];exact hpl) i (by simpa using hb)
         rw[hif]at h3
         cases h3
      ·
       have hpe:(listed.setIfInBounds i true).getD p false=listed.getD p false:=getD_set_ne false hip
       exact ih _ _ _ hs2 (closed_set hc hi) him2 ⟨updF u i v,hput v,fun h=>hG0 _ _ hRw (hg0 (by rw[hpe]at h;exact h)),fun h=>hG1 _ _ hRw (hg1 (by rw[hpe]at h;exact h)),nextφ v w' hv (fun j hj hl=>hR j _ _ _ hRw (hφ j hl))⟩ hcn
 have hrep:∀j,(Array.replicate ops.size false).getD j false=true→False:=fun j hj=>by
  by_cases h:j<ops.size
  ·
   rw[getD_true_of (by simpa using h)]at hj;simp at hj
  ·
   simp[Array.getElem?_eq_none (show (Array.replicate ops.size false).size≤j by simpa using h)]at hj
 refine wp_region_any hm (key ops.size _ _ _ (by simp) (fun j hj=>(hrep j hj).elim) ?_ ⟨fun j=>(((dsts ops)[j]?.getD none).map (fun t=>base.tmps.getD t undef)).getD undef,?_,fun _=>hG,fun h=>(hrep p h).elim,fun j hj=>(hrep j hj).elim⟩ ?_)
 ·
  rw[getD_true_of (by simp;omega)];simp
 ·
  symm
  refine putF_same base (dsts ops) 0 _ fun i d hd=>?_
  simp only[Nat.zero_add,hd,Option.getD_some]
 ·
  have:=List.countP_le_length (l:=List.range ops.size) (p:=fun j=>!(Array.replicate ops.size false).getD j true)
  simpa using this
theorem fact_ofU {ops:Array Oper} {X:Nat→Prop} {i:Nat} (hf:∀j,(aheadOf ops 12 (waitsFor ops i)).contains j=true→X j) (j:Nat) (h:(aheadOf ops 12 (waitsFor ops i)).contains j=true):X j:=hf j h
end
end Go.Proofs.YtehcjlkgfgpjnaaGreatDoor
