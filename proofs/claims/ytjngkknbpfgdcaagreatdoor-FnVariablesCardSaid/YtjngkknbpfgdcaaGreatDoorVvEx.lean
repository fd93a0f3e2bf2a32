import Derived.Test.YtjngkknbpfgdcaaGreatDoorVvR0
import Derived.Test.YtjngkknbpfgdcaaGreatDoorVvE13
import Derived.Test.YtjngkknbpfgdcaaGreatDoorVvK0
set_option linter.unusedVariables false
set_option linter.unusedSimpArgs false
set_option maxRecDepth 100000
set_option maxHeartbeats 8000000
namespace Go.Proofs.YtjngkknbpfgdcaaGreatDoor
open Go.RowKit
structure Bz (s s':O):Prop where
 nm:s'.names=s.names
 rc:s'.records=s.records
 gl:s'.globals.length=s.globals.length
 ob:∀(i:Nat) (o:cr),s.objects[i]?=some o->∃o',s'.objects[i]?=some o'/\o'.kind=o.kind/\o.items.length<=o'.items.length
theorem Jc {s s':O} (h:Bz s s') {v:cC} (hv:pJ s v=true):pJ s' v=true:=by
 unfold pJ at hv |-
 cases hq:s.objects[v.n.toNat]? with
 | none=>rw[hq]at hv;cases hv
 | some o =>
  rw[hq]at hv
  obtain⟨o',e,hk,hl⟩:=h.ob _ _ hq
  rw[e]
  simp only[Bool.and_eq_true,decide_eq_true_eq]at hv |-
  refine⟨hk.trans hv.1,?_⟩
  have h2:=hv.2
  split at h2
  ·
   rename_i hc
   rw[if_pos hc]
   simp only[decide_eq_true_eq]at h2 |-
   omega
  ·
   rename_i hc
   rw[if_neg hc]
theorem lJ {s s':O} (h:Bz s s') {v:cC} (hv:eE s v=true):eE s' v=true:=by
 unfold eE at hv |-
 rw[Bool.and_eq_true]at hv |-
 refine⟨hv.1,?_⟩
 have h2:=hv.2
 by_cases hk:dP v.k≠0
 ·
  rw[if_pos hk]at h2 |-
  exact Jc h h2
 ·
  rw[if_neg hk]at h2 |-
  rw[h.nm,h.rc,h.gl]
  exact h2
theorem DT {s s':O} (h:Bz s s') {v:cC} (hv:gn s v=true):gn s' v=true:=by
 unfold gn at hv |-
 rw[Bool.and_eq_true]at hv |-
 exact⟨hv.1,lJ h hv.2⟩
theorem nr {s s':O} (h:Bz s s') {l:List R} (hv:fS s l=true):fS s' l=true :=
 List.all_eq_true.2 fun x hx=>DT h (List.all_eq_true.1 hv x hx)
theorem GH {α β:Type} {f g:α->β->Bool} (hfg:∀a b,f a b=true->g a b=true):∀(l:List α) (r:List β),sc f l r=true->sc g l r=true
 | [],_,_=>by cases ‹List β› <;> rfl
 | _ :: _,[],_=>rfl
 | a :: r,b :: q,h=>by
  simp only[sc,Bool.and_eq_true]at h |-
  exact⟨hfg a b h.1,GH hfg r q h.2⟩
theorem PR {s s':O} (h:Bz s s') {t:Int} {l:List R} (hv:ez s t l=true):ez s' t l=true:=by
 unfold ez at hv |-
 rw[Bool.and_eq_true]at hv |-
 refine⟨hv.1,GH (fun k x hx=>?_) _ _ hv.2⟩
 unfold dG at hx |-
 rw[Bool.and_eq_true]at hx |-
 exact⟨lJ h hx.1,hx.2⟩
def yk (s:O) (o:cr):Bool :=
  (if o.kind=1 then decide (o.tag=0)&&decide (o.keys.length=0)&&decide (o.items.length<=24)&&fS s o.items
   else if o.kind=2 then decide (o.tag=0)&&decide (o.keys.length=0)&&decide (o.items.length<=40)&&fS s o.items
   else if o.kind=3 then decide (o.tag=0)&&decide (o.keys.length<=40)&&decide (o.items.length=o.keys.length+1)&&fS s o.items&&fS s o.keys&&mv o.keys
   else if o.kind=4 then decide (o.tag=0)&&decide (o.keys.length<=40)&&decide (o.items.length=0)&&fS s o.keys&&mv o.keys
   else if o.kind=5 then decide (0<=o.tag)&&decide (o.tag<(s.records.length:Int))&&decide (o.keys.length=0)&&decide (o.items.length=(s.records.getD o.tag.toNat (.mk ByteArray.empty [] 0)).fields.length)&&fS s o.items
   else if o.kind=6 then decide (1<=o.tag)&&decide (o.keys.length=0)&&decide (o.items.length=3)&&decide ((j0 o.items 0).k=19)&&decide ((j0 o.items 1).k=19)&&decide ((j0 o.items 2).k=1)&&decide (0<=(j0 o.items 2).n)&&eE s (j0 o.items 0)&&eE s (j0 o.items 1)&&eE s (j0 o.items 2)
   else if o.kind=7 then decide (o.keys.length=0)&&ez s o.tag o.items
   else if o.kind=8 then decide (o.tag=0)&&decide (o.keys.length=0)&&decide (o.items.length=2)&&decide ((j0 o.items 0).k=5)&&eE s (j0 o.items 0)&&gn s (j0 o.items 1)
   else if o.kind=9 then decide (o.tag=0)&&decide (o.keys.length=0)&&decide (o.items.length=2)&&decide ((j0 o.items 0).k=2)&&decide ((j0 o.items 1).k=1)&&eE s (j0 o.items 0)&&eE s (j0 o.items 1)&&decide (1<=(j0 o.items 1).n/\(j0 o.items 1).n<=((j0 o.items 0).t.size:Int)+1)
   else false)
theorem yl (s:O) (o:cr):cT s o=((if 2<=o.kind/\o.kind<=7 then decide (1<=o.fC/\o.fC<=s.made) else decide (o.fC=0))&&yk s o):=rfl
theorem PS {s s':O} (h:Bz s s') {o:cr} (hv:yk s o=true):yk s' o=true:=by
 unfold yk at hv |-
 by_cases h1:o.kind=1
 ·
  rw[if_pos h1]at hv |-
  simp only[Bool.and_eq_true]at hv |-
  exact⟨hv.1,nr h hv.2⟩
 rw[if_neg h1]at hv |-
 by_cases h2:o.kind=2
 ·
  rw[if_pos h2]at hv |-
  simp only[Bool.and_eq_true]at hv |-
  exact⟨hv.1,nr h hv.2⟩
 rw[if_neg h2]at hv |-
 by_cases h3:o.kind=3
 ·
  rw[if_pos h3]at hv |-
  simp only[Bool.and_eq_true]at hv |-
  exact⟨⟨⟨hv.1.1.1,nr h hv.1.1.2⟩,nr h hv.1.2⟩,hv.2⟩
 rw[if_neg h3]at hv |-
 by_cases h4:o.kind=4
 ·
  rw[if_pos h4]at hv |-
  simp only[Bool.and_eq_true]at hv |-
  exact⟨⟨hv.1.1,nr h hv.1.2⟩,hv.2⟩
 rw[if_neg h4]at hv |-
 by_cases h5:o.kind=5
 ·
  rw[if_pos h5]at hv |-
  rw[h.rc]
  simp only[Bool.and_eq_true]at hv |-
  exact⟨hv.1,nr h hv.2⟩
 rw[if_neg h5]at hv |-
 by_cases h6:o.kind=6
 ·
  rw[if_pos h6]at hv |-
  simp only[Bool.and_eq_true]at hv |-
  exact⟨⟨⟨hv.1.1.1,lJ h hv.1.1.2⟩,lJ h hv.1.2⟩,lJ h hv.2⟩
 rw[if_neg h6]at hv |-
 by_cases h7:o.kind=7
 ·
  rw[if_pos h7]at hv |-
  simp only[Bool.and_eq_true]at hv |-
  exact⟨hv.1,PR h hv.2⟩
 rw[if_neg h7]at hv |-
 by_cases h8:o.kind=8
 ·
  rw[if_pos h8]at hv |-
  simp only[Bool.and_eq_true]at hv |-
  exact⟨⟨hv.1.1,lJ h hv.1.2⟩,DT h hv.2⟩
 rw[if_neg h8]at hv |-
 by_cases h9:o.kind=9
 ·
  rw[if_pos h9]at hv |-
  simp only[Bool.and_eq_true]at hv |-
  exact⟨⟨⟨hv.1.1.1,lJ h hv.1.1.2⟩,lJ h hv.1.2⟩,hv.2⟩
 rw[if_neg h9]at hv
 cases hv
theorem ym {s s':O} (h:Bz s s') (hm:s.made<=s'.made) {o:cr} (hv:cT s o=true):cT s' o=true:=by
 rw[yl,Bool.and_eq_true]at hv |-
 refine⟨?_,PS h hv.2⟩
 have h1:=hv.1
 by_cases hk:2<=o.kind/\o.kind<=7
 ·
  rw[if_pos hk]at h1 |-
  simp only[decide_eq_true_eq]at h1 |-
  omega
 ·
  rw[if_neg hk]at h1 |-
  exact h1
theorem BA {s s':O} (h:Bz s s') {a:cV} (hv:tP s a=true):tP s' a=true:=by
 unfold tP at hv |-
 rw[h.nm]
 simp only[Bool.and_eq_true,decide_eq_true_eq]at hv |-
 cases hq:s.objects[a.frame.toNat]? with
 | none=>rw[hq]at hv;cases hv.2
 | some o =>
  rw[hq]at hv
  obtain⟨o',e,hk,-⟩:=h.ob _ _ hq
  rw[e]
  simp only[decide_eq_true_eq]at hv |-
  obtain⟨jP,-⟩:=List.getElem?_eq_some_iff.1 e
  exact⟨⟨hv.1.1,hv.1.2.1,by omega⟩,hk.trans hv.2⟩
theorem l6 {s:O} (h:eP s=true):sX s=true/\s.records.all mZ=true/\s.output.all (fun x=>decide (x.size<=120))=true/\s.pa.all (tP s)=true/\s.objects.all (cT s)=true/\C7 (s.objects.map cr.fC)=true/\fS s s.globals=true:=by
 unfold eP at h
 simp only[Bool.and_eq_true]at h
 obtain⟨⟨⟨⟨⟨⟨h1,h2⟩,h3⟩,h4⟩,h5⟩,h6⟩,h7⟩:=h
 exact⟨h1,h2,h3,h4,h5,h6,h7⟩
theorem yY {s:O} (h1:sX s=true) (h2:s.records.all mZ=true) (h3:s.output.all (fun x=>decide (x.size<=120))=true) (h4:s.pa.all (tP s)=true) (h5:s.objects.all (cT s)=true) (h6:C7 (s.objects.map cr.fC)=true) (h7:fS s s.globals=true):eP s=true:=by
 unfold eP
 rw[h1,h2,h3,h4,h5,h6,h7]
 rfl
def cr.th:cr->Nat->R->cr | .mk k t s i y,j,v=>.mk k t s (i.set j v) y
def cr.add:cr->R->R->cr | .mk k t s i y,key,v=>.mk k t s (i++[v]) (y++[key])
def vm (x2:List cr) (m j:Nat) (v:R):List cr:=x2.set m ((x2.getD m nS).th j v)
def U8 (x2:List cr) (m:Nat) (key v:R):List cr:=x2.set m ((x2.getD m nS).add key v)
def Gi (p:Int) (n:Nat):Int:=if 120<n then 0 else if 1<=p/\p<=n+1 then p else if -(n:Int)<=p/\p<=0 then n+1+p else 0
def Fh (p:Int) (n:Nat):Bool:=decide (n<=120)&&decide (-(n:Int)<=p/\p<=n+1)
def cC.tv (v:cC):R:=.mk v.k v.n v.i v.t v.lo v.hi
theorem cC.U9 (v:cC):v.tv.v=v:=rfl
def BB (s:O) (r:cC):Nat:=(j0 (kh s r.n).items 0).n.toNat
def Fi (s:O) (r:cC):cC:=j0 (kh s r.n).items 1
def lX (s:O) (r v:cC):O × Int :=
  match s with
  | .mk x0 x1 x2 x3 x4 x5 x6 x7 x8 x9 F G Z =>
    if r.k=13\/r.k=16 then (.mk x0 x1 (vm x2 r.n.toNat r.i.toNat v.tv) x3 x4 x5 x6 x7 x8 x9 F G Z,0)
    else if r.k=14 then (.mk x0 x1 x2 (x3.set r.i.toNat v.tv) x4 x5 x6 x7 x8 x9 F G Z,0)
    else if r.k=15 then (if ((x2.getD r.n.toNat nS).items.length:Int)<=r.i then (s,205) else (.mk x0 x1 (vm x2 r.n.toNat r.i.toNat v.tv) x3 x4 x5 x6 x7 x8 x9 F G Z,0))
    else if r.k=17 then
      (if 0<=lN (x2.getD (BB s r) nS).keys (Fi s r) then (.mk x0 x1 (vm x2 (BB s r) (1+lN (x2.getD (BB s r) nS).keys (Fi s r)).toNat v.tv) x3 x4 x5 x6 x7 x8 x9 F G Z,0)
       else if 40<=(x2.getD (BB s r) nS).keys.length then (s,302)
       else (.mk x0 x1 (U8 x2 (BB s r) (Fi s r).tv v.tv) x3 x4 x5 x6 x7 x8 x9 F G Z,0))
    else if r.i=1 then (if uz v=true then (.mk x0 x1 x2 x3 (tw v) 1 x6 x7 x8 x9 F G Z,0) else (s,103))
    else if DS v=true then (if Fh (Bx v) x4.size=true then (.mk x0 x1 x2 x3 x4 (Gi (Bx v) x4.size) x6 x7 x8 x9 F G Z,0) else (s,-1))
    else (s,101)
def tQ (s:O) (r v:cC):Bool:=eP s&&eE s r&&gn s v&&(decide (13<=r.k)&&decide (r.k<=18))
def yZ (s:O) (r v:cC):O:=if tQ s r v=true/\(lX s r v).2<=0 then (lX s r v).1 else sY
def Bd (s:O) (r v:cC):Int:=if tQ s r v=true then (lX s r v).2 else 111
section
variable {x0:List cx} {x1:List cw} {x2:List cr} {x3:List R} {x4:cx} {x5:Int} {x6 x7:List cx} {x8:List cV} {x9:Bool} {F G Z:Int}
theorem BC {m:Nat} {o:cr} (hm:m<x2.length) (hk:o.kind=x2[m].kind) (hl:x2[m].items.length<=o.items.length) :
  Bz (.mk x0 x1 x2 x3 x4 x5 x6 x7 x8 x9 F G Z) (.mk x0 x1 (x2.set m o) x3 x4 x5 x6 x7 x8 x9 F G Z):=by
 refine⟨rfl,rfl,rfl,fun i p hp=>?_⟩
 have hp':x2[i]?=some p:=hp
 show ∃o',(x2.set m o)[i]?=some o'/\o'.kind=p.kind/\p.items.length<=o'.items.length
 by_cases e:m=i
 ·
  subst e
  rw[List.getElem?_eq_getElem hm]at hp'
  have:=Option.some.inj hp'
  subst this
  exact⟨o,by rw[List.getElem?_set,if_pos rfl,if_pos hm],hk,hl⟩
 ·
  exact⟨p,by rw[List.getElem?_set,if_neg e];exact hp',rfl,Nat.le_refl _⟩
theorem BD {m:Nat} {o:cr} (h:eP (.mk x0 x1 x2 x3 x4 x5 x6 x7 x8 x9 F G Z)=true) (hm:m<x2.length) (hk:o.kind=x2[m].kind) (hs:o.fC=x2[m].fC) (hl:x2[m].items.length<=o.items.length) (hb:yk (.mk x0 x1 x2 x3 x4 x5 x6 x7 x8 x9 F G Z) o=true) :
  eP (.mk x0 x1 (x2.set m o) x3 x4 x5 x6 x7 x8 x9 F G Z)=true:=by
 have hX:=BC (x0:=x0) (x1:=x1) (x3:=x3) (x4:=x4) (x5:=x5) (x6:=x6) (x7:=x7) (x8:=x8) (x9:=x9) (F:=F) (G:=G) (Z:=Z) hm hk hl
 obtain⟨p1,p2,p3,p4,p5,p6,p7⟩:=l6 h
 refine yY p1 p2 p3 (List.all_eq_true.2 fun a ha=>BA hX (List.all_eq_true.1 p4 a ha)) (List.all_eq_true.2 fun p hp=>?_) ?_ (nr hX p7)
 ·
  rcases List.mem_or_eq_of_mem_set (show p∈x2.set m o from hp)with q | q
  ·
   exact ym hX (Int.le_refl _) (List.all_eq_true.1 p5 p q)
  ·
   rw[q]
   have h0:=List.all_eq_true.1 p5 x2[m] (List.getElem_mem hm)
   refine ym hX (Int.le_refl _) ?_
   rw[yl,Bool.and_eq_true]at h0 |-
   rw[hk,hs]
   exact⟨h0.1,hb⟩
 ·
  show C7 ((x2.set m o).map cr.fC)=true
  have e:(x2.set m o).map cr.fC=x2.map cr.fC:=by
   refine List.ext_getElem? fun i=>?_
   rw[List.getElem?_map,List.getElem?_map,List.getElem?_set]
   by_cases e:m=i
   ·
    subst e
    rw[if_pos rfl,if_pos hm,List.getElem?_eq_getElem hm,Option.map_some,Option.map_some,hs]
   ·
    rw[if_neg e]
  rw[e]
  exact p6
theorem DU {m:Nat} {o:cr} (hm:m<x2.length) (n:Int) :
  kh (.mk x0 x1 (x2.set m o) x3 x4 x5 x6 x7 x8 x9 F G Z) n=if m=n.toNat then o else kh (.mk x0 x1 x2 x3 x4 x5 x6 x7 x8 x9 F G Z) n:=by
 unfold kh
 show (x2.set m o).getD n.toNat _=if m=n.toNat then o else x2.getD n.toNat _
 rw[List.getD_eq_getElem?_getD,List.getElem?_set]
 by_cases e:m=n.toNat
 ·
  rw[if_pos e,if_pos e,if_pos hm];rfl
 ·
  rw[if_neg e,if_neg e,<-List.getD_eq_getElem?_getD]
end
theorem tR {s:O} {l:List R} {v:cC} (h:fS s l=true) (hv:gn s v=true) (j:Nat):fS s (l.set j v.tv)=true:=by
 refine List.all_eq_true.2 fun x hx=>?_
 rcases List.mem_or_eq_of_mem_set hx with q | q
 ·
  exact List.all_eq_true.1 h x q
 ·
  rw[q];exact hv
theorem DW {s:O} {l:List R} {v:cC} (h:fS s l=true) (hv:gn s v=true):fS s (l++[v.tv])=true:=by
 refine List.all_eq_true.2 fun x hx=>?_
 rcases List.mem_append.1 hx with q | q
 ·
  exact List.all_eq_true.1 h x q
 ·
  rw[List.mem_singleton.1 q];exact hv
theorem Jd {l:List R} {key:cC} (h:mv l=true) (hk:∀k (hk:k<l.length),l[k].v.pn key=false):mv (l++[key.tv])=true:=by
 refine Kx fun i hi k hki=>?_
 have AF:i<l.length+1:=bD
 by_cases e:i<l.length
 ·
  rw[List.getElem_append_left e,List.getElem_append_left aF]
  cases hq:(l[k]' aF).v.pn l[i].v with
  | false=>rfl
  | true=>rw[Fj i k e hki hq]at h;cases h
 ·
  have e2:i=l.length:=aF
  subst e2
  rw[List.getElem_append_left hki,List.getElem_append_right (Nat.le_refl _)]
  simp only[Nat.sub_self,ag]
  exact hk k hki
theorem GI {s:O} {o:cr} {v:cC} (h:yk s o=true) (hk:o.kind=1\/o.kind=2\/o.kind=3\/o.kind=5) (hv:gn s v=true) (j:Nat):yk s (o.th j v.tv)=true:=by
 have ek:(o.th j v.tv).kind=o.kind:=bH
 have et:(o.th j v.tv).tag=o.tag:=bH
 have ey:(o.th j v.tv).keys=o.keys:=bH
 have ei:(o.th j v.tv).items=o.items.set j v.tv:=bH
 unfold yk at h |-
 rw[ek,et,ey,ei,List.length_set]
 rcases hk with hk | hk | hk | hk
 ·
  rw[if_pos hk]at h |-
  simp only[Bool.and_eq_true]at h |-
  exact⟨h.1,tR h.2 hv j⟩
 ·
  rw[if_neg aF,if_pos hk]at h |-
  simp only[Bool.and_eq_true]at h |-
  exact⟨h.1,tR h.2 hv j⟩
 ·
  rw[if_neg aF,if_neg aF,if_pos hk]at h |-
  simp only[Bool.and_eq_true]at h |-
  exact⟨⟨⟨h.1.1.1,tR h.1.1.2 hv j⟩,h.1.2⟩,h.2⟩
 ·
  rw[if_neg aF,if_neg aF,if_neg aF,if_neg aF,if_pos hk]at h |-
  simp only[Bool.and_eq_true]at h |-
  exact⟨h.1,tR h.2 hv j⟩
theorem Va {s:O} {o:cr} {key v:cC} (h:yk s o=true) (hk:o.kind=3) (hv:gn s v=true) (hy:gn s key=true) (hl:o.keys.length<40) (hx:∀k (hk:k<o.keys.length),o.keys[k].v.pn key=false):yk s (o.add key.tv v.tv)=true:=by
 have ek:(o.add key.tv v.tv).kind=o.kind:=bH
 have et:(o.add key.tv v.tv).tag=o.tag:=bH
 have ey:(o.add key.tv v.tv).keys=o.keys++[key.tv]:=bH
 have ei:(o.add key.tv v.tv).items=o.items++[v.tv]:=bH
 unfold yk at h |-
 rw[ek,et,ey,ei]
 rw[if_neg aF,if_neg aF,if_pos hk]at h |-
 simp only[Bool.and_eq_true,decide_eq_true_eq,List.length_append,List.length_singleton]at h |-
 exact⟨⟨⟨⟨⟨h.1.1.1.1.1,by omega⟩,by omega⟩,DW h.1.1.2 hv⟩,DW h.1.2 hy⟩,Jd h.2 hx⟩
theorem aaQ {v:cC} (h:dD v=true) (hn:v.Ok):(tw v).size<=120:=by
 unfold tw
 split
 ·
  have h1:=hn.n
  unfold dT at h1
  have:=Lib.itoa_length_le v.n aF aF
  show (Lib.itoa v.n).toArray.size<=120
  rw[List.size_toArray]
  omega
 split
 ·
  rename_i h2
  unfold dD at h
  rw[if_neg aF,if_neg aF,if_pos h2]at h
  simp only[Bool.and_eq_true,decide_eq_true_eq]at h
  exact h.2
 split
 ·
  rename_i h3
  exact h3.2
 ·
  exact Nat.zero_le _
theorem aaR {p:Int} {n:Nat} (h:Fh p n=true):1<=Gi p n/\Gi p n<=(n:Int)+1:=by
 unfold Fh at h
 simp only[Bool.and_eq_true,decide_eq_true_eq]at h
 unfold Gi
 rw[if_neg aF]
 split
 ·
  assumption
 ·
  split <;> omega
theorem PT {a b:cC} (ha:dD a=true) (hb:dD b=true) (hk:a.k=b.k) (h1:13<=a.k) (h2:a.k<=16) (hn:a.k=14\/a.n=b.n) (hi:a.i=b.i):a=b:=by
 obtain⟨ak,an,ai,at',al,ah⟩:=a
 obtain⟨bk,bn,bi,bt,bl,bh⟩:=b
 simp only at hk h1 h2 hn hi
 subst hk
 subst hi
 have hp:∀x y:cx,x.toList=[]->y.toList=[]->x=y:=fun x y hx hy=>by
  have hx:=nV x hx
  have hy:=nV y hy
  exact (ByteArray.size_eq_zero_iff.1 hx).trans (ByteArray.size_eq_zero_iff.1 hy).symm
 unfold dD at ha hb
 simp only at ha hb
 by_cases II:ak=14
 ·
  subst II
  rw[if_neg aI,if_neg aI,if_neg aI,if_neg aI,if_neg aI,if_pos rfl]at ha hb
  simp only[Bool.and_eq_true,decide_eq_true_eq]at ha hb
  obtain⟨⟨⟨a1,a2,a3⟩,a4⟩,-⟩:=ha
  obtain⟨⟨⟨b1,b2,b3⟩,b4⟩,-⟩:=hb
  rw[hp _ _ a1 b1,a2,a3,a4,b2,b3,b4]
 ·
  rw[if_neg aF,if_neg aF,if_neg aF,if_neg aF,if_pos aF]at ha hb
  simp only[Bool.and_eq_true,decide_eq_true_eq]at ha hb
  obtain⟨⟨⟨a1,a2,a3⟩,-⟩,-⟩:=ha
  obtain⟨⟨⟨b1,b2,b3⟩,-⟩,-⟩:=hb
  rcases hn with hn | hn
  ·
   exact absurd hn II
  rw[hp _ _ a1 b1,a2,a3,b2,b3,hn]
structure sZ (s T:O) (r v:cC):Prop where
 val:eP T=true
 inn:eE T r=true
 rd0:(nG T r).2=0
 rd:r.k≠18->(nG T r).1=v
 gV:∀o:cC,eE s o=true->13<=o.k->o.k<=16->r.k<=16->o≠r->eE T o=true/\nG T o=nG s o
theorem Vb {s:O} {r v:cC} (GJ:eP s=true) (gf:eE s r=true) (hk:r.k=13\/r.k=15\/r.k=16) (hd:gn s v=true) (jP:r.i<((kh s r.n).items.length:Int)) :
  ∃T,(∀x0 x1 x2 x3 x4 x5 x6 x7 x8 x9 F G Z,s=.mk x0 x1 x2 x3 x4 x5 x6 x7 x8 x9 F G Z->T=.mk x0 x1 (vm x2 r.n.toNat r.i.toNat v.tv) x3 x4 x5 x6 x7 x8 x9 F G Z)/\sZ s T r v:=by
 obtain⟨k,n,i,t,lo,hi⟩:=r
 have hw:=gg gf
 obtain⟨m,rfl,DG,LX,-⟩:=jz gf (by simp only at hk;omega)
 have jh:=jr hw (by simp only at hk;omega)
 obtain⟨j,rfl⟩:=Int.eq_ofNat_of_zero_le jh
 obtain⟨x0,x1,x2,x3,x4,x5,x6,x7,x8,x9,F,G,Z⟩:=s
 have hm:m<x2.length:=DG
 have sw:(x2[m]'hm).kind=dP k:=LX
 simp only at hk jP
 rw[iO DG]at jP
 have hj:j<(x2[m]'hm).items.length:=Int.ofNat_lt.1 jP
 clear LX jP DG
 have hg:vm x2 (m:Int).toNat (j:Int).toNat v.tv=x2.set m (x2[m].th j v.tv):=by
  unfold vm
  rw[Int.toNat_natCast,Int.toNat_natCast,List.getD_eq_getElem?_getD,List.getElem?_eq_getElem hm];rfl
 have hkk:(x2[m].th j v.tv).kind=x2[m].kind:=by cases x2[m];rfl
 have hss:(x2[m].th j v.tv).fC=x2[m].fC:=by cases x2[m];rfl
 have PU:(x2[m].th j v.tv).items=x2[m].items.set j v.tv:=by cases x2[m];rfl
 have oj:x2[m].items.length<=(x2[m].th j v.tv).items.length:=by rw[PU,List.length_set];exact Nat.le_refl _
 have hk4:dP k=1\/dP k=2\/dP k=3\/dP k=5:=by
  rcases hk with rfl | rfl | rfl
  ·
   exact Or.inl rfl
  ·
   exact Or.inr (Or.inl rfl)
  ·
   exact Or.inr (Or.inr (Or.inr rfl))
 have hX:=BC (x0:=x0) (x1:=x1) (x3:=x3) (x4:=x4) (x5:=x5) (x6:=x6) (x7:=x7) (x8:=x8) (x9:=x9) (F:=F) (G:=G) (Z:=Z) hm hkk oj
 have zy:=List.all_eq_true.1 (l6 GJ).2.2.2.2.1 x2[m] (List.getElem_mem hm)
 rw[yl,Bool.and_eq_true]at zy
 have hV:=BD GJ hm hkk hss oj (GI zy.2 (by rw[sw];exact hk4) hd j)
 have hvj:j0 (x2[m].th j v.tv).items j=v:=by
  rw[PU,lK (by rw[List.length_set];exact hj),List.getElem_set_self]
  exact cC.U9 v
 have hO:=fun n:Int=>DU (x0:=x0) (x1:=x1) (x3:=x3) (x4:=x4) (x5:=x5) (x6:=x6) (x7:=x7) (x8:=x8) (x9:=x9) (F:=F) (G:=G) (Z:=Z) (o:=x2[m].th j v.tv) hm n
 have IF:nG (.mk x0 x1 (x2.set m (x2[m].th j v.tv)) x3 x4 x5 x6 x7 x8 x9 F G Z) ⟨k,m,j,t,lo,hi⟩=(v,0):=by
  have h1:=hO (m:Int)
  rw[if_pos (Int.toNat_natCast m).symm]at h1
  unfold nG
  simp only[h1,Int.toNat_natCast,hvj]
  rcases hk with rfl | rfl | rfl
  ·
   rw[if_pos aJ]
  ·
   rw[if_neg aJ,if_neg aJ,if_pos rfl,if_neg (by rw[PU,List.length_set];omega)]
  ·
   rw[if_pos aJ]
 refine⟨_,fun _ _ _ _ _ _ _ _ _ _ _ _ _ e=>?_,hV,lJ hX gf,by rw[IF],fun _=>by rw[IF],fun o ho GK h16 _ iP=>⟨lJ hX ho,?_⟩⟩
 ·
  injection e with e0 e1 e2 e3 e4 e5 e6 e7 e8 e9 iE jc jd
  subst e0 e1 e2 e3 e4 e5 e6 e7 e8 e9 iE jc jd
  show _=O.mk _ _ (vm _ (m:Int).toNat (j:Int).toNat v.tv) _ _ _ _ _ _ _ _ _ _
  rw[hg]
 ·
  obtain⟨ok,on,oi,ot,ol,oh⟩:=o
  have how:=gg ho
  simp only at GK h16
  by_cases II:ok=14
  ·
   subst II
   rfl
  obtain⟨p,rfl,hp,hpk,-⟩:=jz ho aF
  have hp0:=jr how aF
  obtain⟨q,rfl⟩:=Int.eq_ofNat_of_zero_le hp0
  have h1:=hO (p:Int)
  rw[Int.toNat_natCast]at h1
  by_cases e:m=p
  ·
   subst e
   have aks:k=ok:=by
    have h3:=sw.symm.trans hpk
    rcases hk with rfl | rfl | rfl <;> rcases (show ok=13\/ok=15\/ok=16 by omega)with rfl | rfl | rfl <;> first | rfl | (revert h3;decide)
   subst aks
   have hqj:q≠j:=fun e=>iP (PT how hw rfl GK h16 (Or.inr rfl) (by show (q:Int)=(j:Int);rw[e]))
   have h2:j0 ((x2[m]'hm).th j v.tv).items q=j0 (x2[m]'hm).items q:=by
    rw[PU]
    exact Xy
   have h4:kh (O.mk x0 x1 x2 x3 x4 x5 x6 x7 x8 x9 F G Z) (m:Int)=(x2[m]'hm):=iO hm
   have h5:((x2[m]'hm).th j v.tv).items.length=(x2[m]'hm).items.length:=by rw[PU,List.length_set]
   rw[if_pos rfl]at h1
   unfold nG
   simp only[h1,h4,Int.toNat_natCast,h2,h5]
   rcases hk with rfl | rfl | rfl <;> rfl
  ·
   rw[if_neg e]at h1
   unfold nG
   simp only[h1]
   rcases (show ok=13\/ok=15\/ok=16 by omega)with rfl | rfl | rfl <;> rfl
theorem Vc {x0:List cx} {x1:List cw} {x2:List cr} {x3:List R} {x4:cx} {x5:Int} {x6 x7:List cx} {x8:List cV} {x9:Bool} {F G Z:Int} {n i:Int} {t:cx} {lo hi:Int} {v:cC} (GJ:eP (.mk x0 x1 x2 x3 x4 x5 x6 x7 x8 x9 F G Z)=true) (gf:eE (.mk x0 x1 x2 x3 x4 x5 x6 x7 x8 x9 F G Z) ⟨14,n,i,t,lo,hi⟩=true) (hd:gn (.mk x0 x1 x2 x3 x4 x5 x6 x7 x8 x9 F G Z) v=true) :
  sZ (.mk x0 x1 x2 x3 x4 x5 x6 x7 x8 x9 F G Z) (.mk x0 x1 x2 (x3.set i.toNat v.tv) x4 x5 x6 x7 x8 x9 F G Z) ⟨14,n,i,t,lo,hi⟩ v:=by
 have hw:=gg gf
 have jh:=jr hw aF
 have hj:=BF gf
 simp only[O.fy]at hj
 obtain⟨j,rfl⟩:=Int.eq_ofNat_of_zero_le jh
 have vw:j<x3.length:=aF
 rw[Int.toNat_natCast]
 have hX:Bz (.mk x0 x1 x2 x3 x4 x5 x6 x7 x8 x9 F G Z) (.mk x0 x1 x2 (x3.set j v.tv) x4 x5 x6 x7 x8 x9 F G Z):=⟨rfl,rfl,List.length_set,fun i o ho=>⟨o,ho,rfl,Nat.le_refl _⟩⟩
 obtain⟨p1,p2,p3,p4,p5,p6,p7⟩:=l6 GJ
 have hV:eP (.mk x0 x1 x2 (x3.set j v.tv) x4 x5 x6 x7 x8 x9 F G Z)=true:=by
  refine yY ?_ p2 p3 (List.all_eq_true.2 fun a ha=>BA hX (List.all_eq_true.1 p4 a ha)) (List.all_eq_true.2 fun p hp=>ym hX (Int.le_refl _) (List.all_eq_true.1 p5 p hp)) p6 (nr hX (tR p7 hd j))
  unfold sX at p1 |-
  simp only[O.fy,List.length_set]at p1 |-
  exact p1
 have hvj:j0 (x3.set j v.tv) j=v:=by
  rw[lK (by rw[List.length_set];exact vw),List.getElem_set_self]
  exact cC.U9 v
 have IF:nG (.mk x0 x1 x2 (x3.set j v.tv) x4 x5 x6 x7 x8 x9 F G Z) ⟨14,n,j,t,lo,hi⟩=(v,0):=by
  unfold nG
  rw[if_neg aJ,if_pos rfl]
  simp only[O.fy,Int.toNat_natCast,hvj]
 refine⟨hV,lJ hX gf,by rw[IF],fun _=>by rw[IF],fun o ho GK h16 _ iP=>⟨lJ hX ho,?_⟩⟩
 obtain⟨ok,on,oi,ot,ol,oh⟩:=o
 have how:=gg ho
 simp only at GK h16
 by_cases II:ok=14
 ·
  subst II
  have hp0:=jr how aF
  obtain⟨q,rfl⟩:=Int.eq_ofNat_of_zero_le hp0
  have hqj:q≠j:=fun e=>iP (PT how hw rfl GK h16 (Or.inl rfl) (by show (q:Int)=(j:Int);rw[e]))
  have h2:j0 (x3.set j v.tv) q=j0 x3 q:=by
   exact Xy
  unfold nG
  rw[if_neg aJ,if_pos rfl,if_neg aJ,if_pos rfl]
  simp only[O.fy,Int.toNat_natCast,h2]
 ·
  unfold nG
  rcases (show ok=13\/ok=15\/ok=16 by omega)with rfl | rfl | rfl <;> rfl
theorem PV {l:List R} {x:cC} {k:Nat} (h:lN l x=(k:Int)):∃hk:k<l.length,l[k].v.pn x=true:=by
 unfold lN at h
 cases hf:l.findIdx? (fun y=>y.v.pn x)with
 | none=>rw[hf]at h;simp only at h;omega
 | some j =>
  rw[hf]at h
  obtain rfl:j=k:=by simp only at h;omega
  obtain⟨h1,h2,-⟩:=List.findIdx?_eq_some_iff_getElem.1 hf
  exact⟨h1,h2⟩
theorem LY {l:List R} {x:cC} (h:¬0<=lN l x) (k:Nat) (hk:k<l.length):l[k].v.pn x=false:=by
 unfold lN at h
 cases hf:l.findIdx? (fun y=>y.v.pn x)with
 | none =>
  rw[List.findIdx?_eq_none_iff]at hf
  exact hf _ (List.getElem_mem hk)
 | some j=>rw[hf]at h;simp only at h;omega
theorem PW {x0:List cx} {x1:List cw} {x2:List cr} {x3:List R} {x4:cx} {x5:Int} {x6 x7:List cx} {x8:List cV} {x9:Bool} {F G Z:Int} {n i:Int} {t:cx} {lo hi:Int} {v:cC} {T:O} (GJ:eP (.mk x0 x1 x2 x3 x4 x5 x6 x7 x8 x9 F G Z)=true) (gf:eE (.mk x0 x1 x2 x3 x4 x5 x6 x7 x8 x9 F G Z) ⟨17,n,i,t,lo,hi⟩=true) (hd:gn (.mk x0 x1 x2 x3 x4 x5 x6 x7 x8 x9 F G Z) v=true)
  (hT:lX (.mk x0 x1 x2 x3 x4 x5 x6 x7 x8 x9 F G Z) ⟨17,n,i,t,lo,hi⟩ v=(T,0)):sZ (.mk x0 x1 x2 x3 x4 x5 x6 x7 x8 x9 F G Z) T ⟨17,n,i,t,lo,hi⟩ v:=by
 obtain⟨m,rfl,DG,LX,-⟩:=jz gf aF
 have hm:m<x2.length:=DG
 have aeZ:(x2[m]'hm).kind=8:=LX
 obtain⟨tag,J,a,b,he,Vd,za,-⟩:=tS GJ DG LX
 have he':(x2[m]'hm)=.mk 8 tag J [a,b] []:=he
 clear LX he DG
 have Kv:gn (.mk x0 x1 x2 x3 x4 x5 x6 x7 x8 x9 F G Z) b.v=true:=by
  have h0:=List.all_eq_true.1 (l6 GJ).2.2.2.2.1 x2[m] (List.getElem_mem hm)
  rw[yl,Bool.and_eq_true]at h0
  have h1:=h0.2
  unfold yk at h1
  rw[if_neg aF,if_neg aF,if_neg aF,if_neg aF,if_neg aF,if_neg aF,if_neg aF,if_pos aeZ,Bool.and_eq_true,he']at h1
  exact h1.2
 obtain⟨ak,an,ai,at',al,ah⟩:=a
 obtain rfl:ak=5:=Vd
 obtain⟨p,rfl,hp0,ae0,-⟩:=jz (show eE (.mk x0 x1 x2 x3 x4 x5 x6 x7 x8 x9 F G Z) ⟨5,an,ai,at',al,ah⟩=true from za) aF
 have hp:p<x2.length:=hp0
 have aaS:(x2[p]'hp).kind=3:=ae0
 clear ae0 hp0
 have hpm:¬p=m:=fun e=>by subst e;rw[aeZ]at aaS;exact absurd aaS aI
 have PX:kh (.mk x0 x1 x2 x3 x4 x5 x6 x7 x8 x9 F G Z) (m:Int)=.mk 8 tag J [.mk 5 p ai at' al ah,b] []:=(iO (s:=.mk x0 x1 x2 x3 x4 x5 x6 x7 x8 x9 F G Z) hm).trans he'
 have e1:BB (.mk x0 x1 x2 x3 x4 x5 x6 x7 x8 x9 F G Z) ⟨17,m,i,t,lo,hi⟩=p:=by
  unfold BB
  simp only[PX]
  exact Int.toNat_natCast p
 have e2:Fi (.mk x0 x1 x2 x3 x4 x5 x6 x7 x8 x9 F G Z) ⟨17,m,i,t,lo,hi⟩=b.v:=by
  unfold Fi
  simp only[PX]
  rfl
 obtain⟨o,ho⟩:∃o,x2[p]=o:=⟨_,rfl⟩
 have hg:x2.getD p nS=o:=by rw[List.getD_eq_getElem?_getD,List.getElem?_eq_getElem hp,ho];rfl
 have zy:=List.all_eq_true.1 (l6 GJ).2.2.2.2.1 x2[p] (List.getElem_mem hp)
 rw[yl,Bool.and_eq_true,ho]at zy
 have ho3:o.kind=3:=ho▸aaS
 have hol:o.items.length=o.keys.length+1:=by
  have h1:=zy.2
  unfold yk at h1
  rw[if_neg aF,if_neg aF,if_pos ho3]at h1
  simp only[Bool.and_eq_true,decide_eq_true_eq]at h1
  exact h1.1.1.1.2
 -- whatever the table becomes
 have main:∀o':cr,o'.kind=o.kind->o'.fC=o.fC->o.items.length<=o'.items.length->yk (.mk x0 x1 x2 x3 x4 x5 x6 x7 x8 x9 F G Z) o'=true->j0 o'.items (1+lN o'.keys b.v).toNat=v->sZ (.mk x0 x1 x2 x3 x4 x5 x6 x7 x8 x9 F G Z) (.mk x0 x1 (x2.set p o') x3 x4 x5 x6 x7 x8 x9 F G Z) ⟨17,m,i,t,lo,hi⟩ v:=by
  intro o' hk hs hl hb hv
  rw[<-ho]at hk hs hl
  have hX:=BC (x0:=x0) (x1:=x1) (x3:=x3) (x4:=x4) (x5:=x5) (x6:=x6) (x7:=x7) (x8:=x8) (x9:=x9) (F:=F) (G:=G) (Z:=Z) hp hk hl
  have hO:=fun n:Int=>DU (x0:=x0) (x1:=x1) (x3:=x3) (x4:=x4) (x5:=x5) (x6:=x6) (x7:=x7) (x8:=x8) (x9:=x9) (F:=F) (G:=G) (Z:=Z) (o:=o') hp n
  have h1:=hO (m:Int)
  rw[if_neg (by rw[Int.toNat_natCast];exact hpm),PX]at h1
  have h2:=hO (p:Int)
  rw[if_pos (Int.toNat_natCast p).symm]at h2
  have IF:nG (.mk x0 x1 (x2.set p o') x3 x4 x5 x6 x7 x8 x9 F G Z) ⟨17,m,i,t,lo,hi⟩=(v,0):=by
   unfold nG
   rw[if_neg aJ,if_neg aJ,if_neg aJ,if_pos rfl]
   simp only[h1]
   show (j0 (kh _ (p:Int)).items (1+lN (kh _ (p:Int)).keys b.v).toNat,(0:Int))=_
   rw[h2,hv]
  exact⟨BD GJ hp hk hs hl hb,lJ hX gf,by rw[IF],fun _=>by rw[IF],fun _ _ _ _ h=>absurd h aJ⟩
 unfold lX at hT
 simp only[e1,e2,hg]at hT
 rw[if_neg aJ,if_neg aJ,if_neg aJ,if_pos trivial]at hT
 by_cases hx:0<=lN o.keys b.v
 ·
  rw[if_pos hx]at hT
  obtain⟨rfl,-⟩:=Prod.mk.inj hT
  obtain⟨k,hk⟩:=Int.eq_ofNat_of_zero_le hx
  obtain⟨UB,-⟩:=PV hk
  have hkn:(1+lN o.keys b.v).toNat=1+k:=aF
  rw[hkn]
  unfold vm
  rw[hg]
  have PU:(o.th (1+k) v.tv).items=o.items.set (1+k) v.tv:=bH
  have hyy:(o.th (1+k) v.tv).keys=o.keys:=bH
  refine main _ bH bH (by rw[PU,List.length_set];exact Nat.le_refl _) (GI zy.2 (Or.inr (Or.inr (Or.inl ho3))) hd _) ?_
  rw[hyy,hkn,PU,lK (by rw[List.length_set];omega),List.getElem_set_self]
  exact cC.U9 v
 ·
  rw[if_neg hx]at hT
  by_cases h40:40<=o.keys.length
  ·
   rw[if_pos h40]at hT
   exact absurd (Prod.mk.inj hT).2 aI
  rw[if_neg h40]at hT
  obtain⟨rfl,-⟩:=Prod.mk.inj hT
  unfold U8
  rw[hg]
  have PU:(o.add b.v.tv v.tv).items=o.items++[v.tv]:=bH
  have hyy:(o.add b.v.tv v.tv).keys=o.keys++[b.v.tv]:=bH
  have Gj:=fun k hk=>LY hx k hk
  refine main _ bH bH (by rw[PU,List.length_append];omega) (Va zy.2 ho3 hd Kv aF Gj) ?_
  have Gk:lN (o.keys++[b.v.tv]) b.v=(o.keys.length:Int):=by
   refine BG _ (by rw[List.length_append,List.length_singleton];omega) ?_ fun j hj hjk=>?_
   ·
    rw[List.getElem_append_right (Nat.le_refl _)]
    simp only[Nat.sub_self,ag]
    exact cC.xV _
   ·
    rw[List.getElem_append_left hjk]
    exact Gj j hjk
  rw[hyy,Gk,PU,show (1+(o.keys.length:Int)).toNat=o.items.length by omega,lK (by rw[List.length_append,List.length_singleton];omega),List.getElem_append_right (Nat.le_refl _)]
  simp only[Nat.sub_self,ag]
  exact cC.U9 v
theorem PY {x0:List cx} {x1:List cw} {x2:List cr} {x3:List R} {x4:cx} {x5:Int} {x6 x7:List cx} {x8:List cV} {x9:Bool} {F G Z:Int} {n i:Int} {t:cx} {lo hi:Int} {v:cC} {y4:cx} {y5:Int} (GJ:eP (.mk x0 x1 x2 x3 x4 x5 x6 x7 x8 x9 F G Z)=true) (gf:eE (.mk x0 x1 x2 x3 x4 x5 x6 x7 x8 x9 F G Z) ⟨18,n,i,t,lo,hi⟩=true) (h4:y4.size<=120) (h5:1<=y5/\y5<=(y4.size:Int)+1) :
  sZ (.mk x0 x1 x2 x3 x4 x5 x6 x7 x8 x9 F G Z) (.mk x0 x1 x2 x3 y4 y5 x6 x7 x8 x9 F G Z) ⟨18,n,i,t,lo,hi⟩ v:=by
 have hX:Bz (.mk x0 x1 x2 x3 x4 x5 x6 x7 x8 x9 F G Z) (.mk x0 x1 x2 x3 y4 y5 x6 x7 x8 x9 F G Z):=⟨rfl,rfl,rfl,fun i o ho=>⟨o,ho,rfl,Nat.le_refl _⟩⟩
 obtain⟨p1,p2,p3,p4,p5,p6,p7⟩:=l6 GJ
 have hV:eP (.mk x0 x1 x2 x3 y4 y5 x6 x7 x8 x9 F G Z)=true:=by
  refine yY ?_ p2 p3 (List.all_eq_true.2 fun a ha=>BA hX (List.all_eq_true.1 p4 a ha)) (List.all_eq_true.2 fun p hp=>ym hX (Int.le_refl _) (List.all_eq_true.1 p5 p hp)) p6 (nr hX p7)
  unfold sX at p1 |-
  simp only[Bool.and_eq_true,decide_eq_true_eq]at p1 |-
  obtain⟨⟨⟨⟨⟨⟨⟨⟨⟨a1,a2⟩,a3⟩,a4⟩,a5⟩,a6⟩,a7⟩,a8⟩,a9⟩,a10⟩:=p1
  exact⟨⟨⟨⟨⟨⟨⟨⟨⟨a1,a2⟩,a3⟩,h4⟩,h5⟩,a6⟩,a7⟩,a8⟩,a9⟩,a10⟩
 exact⟨hV,lJ hX gf,by unfold nG;rw[if_neg aJ,if_neg aJ,if_neg aJ,if_neg aJ,if_pos rfl],fun h=>absurd rfl h,fun _ _ _ _ h=>absurd h aJ⟩
theorem LZ {s:O} {r v:cC} (AN:tQ s r v=true) (hv:v.Ok) (hc:(lX s r v).2=0):sZ s (lX s r v).1 r v:=by
 unfold tQ at AN
 simp only[Bool.and_eq_true,decide_eq_true_eq]at AN
 obtain⟨⟨⟨GJ,gf⟩,hd⟩,GK,h18⟩:=AN
 obtain⟨x0,x1,x2,x3,x4,x5,x6,x7,x8,x9,F,G,Z⟩:=s
 obtain⟨T,hT⟩:∃T,lX (.mk x0 x1 x2 x3 x4 x5 x6 x7 x8 x9 F G Z) r v=(T,0):=⟨_,Prod.ext rfl hc⟩
 rw[hT]
 show sZ _ T r v
 by_cases h17:r.k=17
 ·
  obtain⟨k,n,i,t,lo,hi⟩:=r
  obtain rfl:k=17:=h17
  exact PW GJ gf hd hT
 by_cases akw:r.k=18
 ·
  obtain⟨k,n,i,t,lo,hi⟩:=r
  obtain rfl:k=18:=akw
  unfold lX at hT
  simp only at hT
  rw[if_neg aJ,if_neg aJ,if_neg aJ,if_neg aJ]at hT
  have hw:dD v=true:=by
   unfold gn at hd
   rw[Bool.and_eq_true]at hd
   exact gg hd.2
  by_cases oQ:i=1
  ·
   rw[if_pos oQ]at hT
   by_cases ht:uz v=true
   ·
    rw[if_pos ht]at hT
    obtain⟨rfl,-⟩:=Prod.mk.inj hT
    exact PY GJ gf (aaQ hw hv) ⟨by omega,by omega⟩
   ·
    rw[if_neg ht]at hT
    exact absurd (Prod.mk.inj hT).2 aI
  ·
   rw[if_neg oQ]at hT
   by_cases ht:DS v=true
   ·
    rw[if_pos ht]at hT
    by_cases hp:Fh (Bx v) x4.size=true
    ·
     rw[if_pos hp]at hT
     obtain⟨rfl,-⟩:=Prod.mk.inj hT
     have h4:x4.size<=120:=by
      unfold Fh at hp
      simp only[Bool.and_eq_true,decide_eq_true_eq]at hp
      exact hp.1
     exact PY GJ gf h4 (aaR hp)
    ·
     rw[if_neg hp]at hT
     exact absurd (Prod.mk.inj hT).2 aI
   ·
    rw[if_neg ht]at hT
    exact absurd (Prod.mk.inj hT).2 aI
 by_cases II:r.k=14
 ·
  obtain⟨k,n,i,t,lo,hi⟩:=r
  obtain rfl:k=14:=II
  unfold lX at hT
  simp only at hT
  rw[if_neg aJ,if_pos trivial]at hT
  obtain⟨rfl,-⟩:=Prod.mk.inj hT
  exact Vc GJ gf hd
 have hk:r.k=13\/r.k=15\/r.k=16:=aF
 by_cases hi:r.i<((kh (.mk x0 x1 x2 x3 x4 x5 x6 x7 x8 x9 F G Z) r.n).items.length:Int)
 ·
  obtain⟨T',hT',hL⟩:=Vb GJ gf hk hd hi
  have e:=hT' _ _ _ _ _ _ _ _ _ _ _ _ _ rfl
  have e2:T=T':=by
   rw[e]
   unfold lX at hT
   simp only at hT
   by_cases h1:r.k=13\/r.k=16
   ·
    rw[if_pos h1]at hT
    exact (Prod.mk.inj hT).1.symm
   ·
    have Ve:r.k=15:=aF
    rw[if_neg h1,if_neg II,if_pos Ve,if_neg (by have h9:((x2.getD r.n.toNat nS).items.length:Int)=((kh (.mk x0 x1 x2 x3 x4 x5 x6 x7 x8 x9 F G Z) r.n).items.length:Int):=rfl;omega)]at hT
    exact (Prod.mk.inj hT).1.symm
  rw[e2]
  exact hL
 ·
  exfalso
  by_cases h1:r.k=13\/r.k=16
  ·
   obtain⟨k,n,i,t,lo,AF⟩:=r
   obtain⟨m,rfl,hm,-,jP⟩:=jz gf (by simp only at hk;omega)
   have h2:=jP h1
   simp only at hi
   rw[iO hm]at hi
   exact hi h2
  ·
   have Ve:r.k=15:=aF
   unfold lX at hT
   simp only at hT
   rw[if_neg h1,if_neg II,if_pos Ve,if_pos (by have h9:((x2.getD r.n.toNat nS).items.length:Int)=((kh (.mk x0 x1 x2 x3 x4 x5 x6 x7 x8 x9 F G Z) r.n).items.length:Int):=rfl;omega)]at hT
   exact absurd (Prod.mk.inj hT).2 aI
theorem hU {b b':Nat} (hn:b'≠b):∀(vs:List Value) (o:Nat) (w:World),(w.setCells b o vs).heap[b']?=w.heap[b']?
 | [],_,_=>rfl
 | v :: r,o,w=>by
  refine (hU hn r (o+1) _).trans ?_
  unfold World.setCell
  split
  all_goals
   show (w.heap.modify b _)[b']?=_
   rw[Array.getElem?_modify,if_neg (Ne.symm hn)]
theorem nZ (b:Nat):∀(vs:List Value) (o:Nat) (w:World),(w.setCells b o vs).os=w.os/\(w.setCells b o vs).tape=w.tape/\(w.setCells b o vs).output=w.output
 | [],_,_=>⟨rfl,rfl,rfl⟩
 | v :: r,o,w=>by
  have h:=nZ b r (o+1) (w.setCell ⟨b,o,none⟩ v)
  have e:(w.setCell ⟨b,o,none⟩ v).os=w.os/\(w.setCell ⟨b,o,none⟩ v).tape=w.tape/\(w.setCell ⟨b,o,none⟩ v).output=w.output:=by
   unfold World.setCell
   split <;> exact⟨rfl,rfl,rfl⟩
  exact⟨h.1.trans e.1,h.2.1.trans e.2.1,h.2.2.trans e.2.2⟩
theorem oa (b o:Nat) (vs:List Value) (w:World) {S:Nat->Prop} (hS:¬S b):gp S w (w.setCells b o vs) :=
 ⟨(nZ b vs o w).1,(nZ b vs o w).2.1,(nZ b vs o w).2.2,Nat.le_of_eq (lk vs o w).symm,fun x hx _=>hU (fun e=>hS (by rw[<-e];exact hx)) vs o w⟩
theorem GL {w:World} {base:Nat} {e:TypeId} {size:Nat} {v:Value} {n:Nat} {xs:List Value} (h:w.ownsRow base e size v n xs):w.ownsRow 0 e size v n xs/\∀b,v.ownBlock=some b->base<=b:=by
 refine⟨⟨h.1,h.2.imp id fun⟨g,cap,cur,e,_,r⟩=>⟨g,cap,cur,e,Nat.zero_le _,r⟩⟩,fun b hb=>?_⟩
 rcases h.2 with⟨rfl,-⟩ | ⟨g,cap,cur,rfl,hg,-⟩
 ·
  cases hb
 ·
  rw[<-Option.some.inj (show some g=some b from hb)];exact hg
theorem C8 {P:Program} {w:World} {o:Oper} {a:Act} {K:Act->World->Prop} {Q:Exit->Act->World->Prop} (s x:Operand) (t:TypeId) (ho:o.op=.call { callee:=.builtin .append,args:=#[s,x],argTypes:=#[t,t] })
  (E:TypeId) (i:TypeInfo) (z:Value) (k bytes:Nat) (ht:P.underlying t=some (.slice E)) (hi:P.info? E=some i) (hz:i.zero=some z) (hsize:i.size=k) (hby:i.bytes=bytes) (hzs:z.cells.size=k) (zx:0<k)
  {L:List Nat} {A:Option Addr} {c:Nat} {xs:List (List Y)} (hR:du w L k A c xs) (hN:L.Nodup) (hf:∀ds∈xs,∀d∈ds,d.flat)
  {ad:Addr} {m:Nat} {d:List Y} {us:List Value} (hd:Y.dh w [] d us) (hu:us.length=k) (hs:a.eval s=.slice A xs.length c) (hx:a.eval x=.slice (some ad) 1 m) (hc:∀j u,us[j]?=some u->w.cell? (ad.add j)=some u)
  (hlen:(xs.length+1)*bytes<=140737488355328) (hmax:xs.length+1<=maxLen)
  (h:∀A9 c9 L9 w9,du w9 L k A c xs->du w9 L9 k A9 c9 (xs++[d])->L9.Nodup->(∀b,b∈L9->b∈L\/w.heap.size<=b)->gp (fun b=>b∉L) w w9->K (a.put o.dst (.slice A9 (xs.length+1) c9)) w9):o.wp P a w K Q:=by
 have akx:=hd.mH
 have Uc:Y.j3 w k [] [d] us:=⟨[],[],us,[],rfl,by simp,hu,hd,rfl,rfl⟩
 have grows:∀ao,A=some ao->c<xs.length+1->o.wp P a w K Q:=by
  intro ao hA hg
  subst hA
  obtain⟨olds,g1,g2,g3,g4,g5⟩:=Row.src hf (du.row (S:=fun _=>True) (fun _ _=>trivial) hR)
  obtain⟨v',w',sH,r1,r2⟩:=run_append_arg_grows (P:=P) w t o.type E i z k bytes ht hi hz hsize hby hzs zx ao xs.length c olds g3.len (fun j u hj=>g5 ao rfl j u hj) ad 1 m us aF hc hg hmax hlen
  obtain⟨r3,r4⟩:=GL r1
  have hO:dK w' E k v' [] (xs++[d]):=⟨olds++us,by rw[List.length_append];exact r3,Y.j3.append (L:=[]) (M:=[]) (g3.keep r2.size (fun b hb=>by cases hb)) (Uc.keep r2.size (fun b hb=>by cases hb)),List.nodup_nil,fun b _ hb=>by cases hb⟩
  obtain⟨A9,c9,L9,rfl,q1,q2,q3⟩:=hO.ownRow
  have mV:=(xH r2).narrow (S':=fun b=>b∉L) (fun x _ e=>by cases e)
  unfold Oper.wp
  simp[execOp,ho,resolve,invoke,builtin,hs,hx,sH,Result.andThen]
  exact h A9 c9 L9 w' (hR.keep r2.size fun b hb=>(xH r2).same b (fun e=>by cases e) (hR.lt b hb)) q1 q2 (fun b hb=>Or.inr ((q3 b hb).elim (r4 b) (fun e=>by cases e))) mV
 rcases hR.2.2 with⟨rfl,rfl,rfl⟩ | ⟨b,of,L',rfl,hb,Ky,rfl,room,hr⟩
 ·
  cases A with
  | some ao=>exact grows ao rfl aJ
  | none =>
   refine jq s x t ho E i z k bytes ht hi hz hsize hby hzs zx (dK.nil w E k) (A:=some ad) (m:=1) (M:=[]) (es:=[d]) (news:=us) ⟨rfl,(fun e=>by cases e),Uc,List.nodup_nil,(fun ad' e=>by cases e;exact hc)⟩ m hs hx (fun b hb hm=>by cases hm) (by simpa using hlen) (by simpa using hmax) fun v9 w9 hO hg hw=>?_
   obtain⟨A9,c9,L9,rfl,q1,q2,q3⟩:=hO.ownRow
   exact h A9 c9 L9 w9 (hR.keep hg.size fun b hb=>by cases hb) q1 q2 (fun b hb=>Or.inr ((q3 b hb).elim (fun e=>(hw b e).elim (fun e=>by cases e) id) (fun e=>by cases e))) ((xH hg).narrow (fun x _ e=>by cases e))
 ·
  by_cases hroom:xs.length+1<=c
  ·
   subst hsize
   have gf:∀j,j<us.length->(w.cell? ⟨b,of+xs.length*i.size+j,none⟩).isSome=true:=fun j hj=>by
    have e:(xs.length+1)*i.size=xs.length*i.size+i.size:=Nat.succ_mul _ _
    have e2:(xs.length+1)*i.size<=c*i.size:=Nat.mul_le_mul_right _ hroom
    obtain⟨u,hu⟩:=room (xs.length*i.size+j) aF
    rw[show of+xs.length*i.size+j=of+(xs.length*i.size+j) by omega,hu]
    rfl
   have sH:=run_append_room_cells (P:=P) w t o.type E i ht hi b of xs.length c ad 1 m us aF hc akx hroom gf (fun j _=>Ky _)
   unfold Oper.wp
   simp[execOp,ho,resolve,invoke,builtin,hs,hx,sH,Result.andThen]
   have hz:(w.setCells b (of+xs.length*i.size) us).heap.size=w.heap.size:=lk us _ w
   have hbL:b∉L':=(List.nodup_cons.1 hN).1
   have td:∀x,x≠b->j4 w (w.setCells b (of+xs.length*i.size) us) x:=fun x hx=>⟨fun o=>World.cell?_of_block (hU hx us _ w),fun o=>World.frozen?_of_block (hU hx us _ w)⟩
   have hold:du (w.setCells b (of+xs.length*i.size) us) (b :: L') i.size (some ⟨b,of,none⟩) c xs:=⟨hR.1,hR.2.1,Or.inr ⟨b,of,L',rfl,by omega,fun j=>by rw[World.frozen?_setCells];exact Ky j,rfl,fun j hj=>Option.isSome_iff_exists.1 (World.isSome_setCells b us _ w _ (Option.isSome_iff_exists.2 (room j hj))),Y.OwnRows.keep aF b xs of L' (fun j h1 h2=>World.cell?_setCells_out b us _ w ⟨b,j,none⟩ (fun _ _=>Or.inl h2)) (fun x hx=>td x (fun e=>hbL (e▸hx))) hr⟩⟩
   refine h (some ⟨b,of,none⟩) c (b :: (L'++[])) _ hold ⟨by simpa using hroom,hR.2.1,Or.inr ⟨b,of,L'++[],rfl,by omega,fun j=>by rw[World.frozen?_setCells];exact Ky j,rfl,fun j hj=>?_,Y.OwnRows.snoc ?_ (Y.eH.oY (hd.keep aF _ _ _ (fun b hb=>by cases hb)) fun j hj=>?_) (by rw[<-hd.length];exact hu)⟩⟩ (by simpa using hN) (fun x hx=>Or.inl (by simpa using hx)) (oa b _ us w (fun e=>e aJ))
   ·
    exact Option.isSome_iff_exists.1 (World.isSome_setCells b us _ w _ (Option.isSome_iff_exists.2 (room j hj)))
   ·
    exact Y.OwnRows.keep aF b xs of L' (fun j h1 h2=>World.cell?_setCells_out b us _ w ⟨b,j,none⟩ (fun _ _=>Or.inl h2)) (fun x hx=>td x (fun e=>hbL (e▸hx))) hr
   ·
    rw[World.cell?_setCells_in b us _ w gf j hj]
    exact (List.getElem?_eq_getElem hj).symm
  ·
   exact grows _ rfl aF
abbrev nT (v:cC):List Value:=[.int .i64 v.k,.int .i64 v.n,.int .i64 v.i,.string v.t,.int .i64 v.lo,.int .i64 v.hi]
theorem Kz {w:World} {v:cC} (h:v.Ok):Y.dh w [] v.tv.D (nT v):=R.kL h.k h.n h.i h.t h.lo h.hi
theorem P0 {w:World} {L:List Nat} {A:Option Addr} {c:Nat} {xs:List R} (h:du w L 6 A c (xs.map R.D)) (hn:L.Nodup) {j:Nat} (hj:j<xs.length) :
  ∃g o L',A=some ⟨g,o,none⟩/\g<w.heap.size/\(∀i,w.frozen? ⟨g,i,none⟩=false)/\L=g :: L'/\w.there g (o+j*6) 6 /\
   ∀v:cC,v.Ok->du (w.setCells g (o+j*6) (nT v)) L 6 A c ((xs.set j v.tv).map R.D):=by
 obtain⟨g,o,L1,Le,Lb,vs,rfl,hg,hf,rfl,hv,hl,hc,put⟩:=h.at2 j bA
 have hvl:=R.mw (x0:=xs[j].v.k) (x1:=xs[j].v.n) (x2:=xs[j].v.i) (x3:=xs[j].v.t) (x4:=xs[j].v.lo) (x5:=xs[j].v.hi) (L:=Le) (vs:=vs) (w:=w) (by rw[List.getElem_map]at hv;cases hx:xs[j];rw[hx]at hv;exact hv)
 obtain⟨rfl,-⟩:=hvl
 have hgL:g∉L1++([]++Lb):=(List.nodup_cons.1 hn).1
 have gf:∀d,d<6->(w.cell? ⟨g,o+j*6+d,none⟩).isSome=true:=fun d hd=>by
  rw[hc d hd,List.getElem?_eq_getElem aF]
  rfl
 refine⟨g,o,L1++([]++Lb),rfl,hg,hf,rfl,fun d hd=>⟨gf d hd,hf _⟩,fun v hv=>?_⟩
 have td:∀x,x≠g->j4 w (w.setCells g (o+j*6) (nT v)) x:=fun x hx=>⟨fun o=>World.cell?_of_block (hU hx _ _ w),fun o=>World.frozen?_of_block (hU hx _ _ w)⟩
 have r:=put (w.setCells g (o+j*6) (nT v)) v.tv.D (nT v) [] (Kz hv) rfl (Nat.le_of_eq (lk _ _ w).symm) (fun x hx=>td x (fun e=>hgL (by rw[<-e];rcases hx with q | q <;> simp[q]))) (fun i=>by rw[World.frozen?_setCells];exact hf i) (fun d hd=>World.cell?_setCells_out g _ _ w ⟨g,d,none⟩ (fun _ _=>by show d<o+j*6\/o+j*6+6<=d;exact hd)) (fun d hd=>by
  rw[World.cell?_setCells_in g (nT v) _ w (fun j hj=>gf j hj) d hd]
  exact (List.getElem?_eq_getElem hd).symm)
 rw[List.map_set]
 exact r
theorem P1 {w:World} {L2:List Nat} {A2:Option Addr} {c2:Nat} {x2:List cr} (h:du w L2 5 A2 c2 (x2.map cr.D)) {m:Nat} (hm:m<x2.length) {k t s:Int} {i y:List R} (hx:x2[m]=.mk k t s i y) :
  ∃g o L1 Lb A3 c3 L3 A4 c4 L4,A2=some ⟨g,o,none⟩/\g<w.heap.size/\(∀j,w.frozen? ⟨g,j,none⟩=false)/\L2=g :: (L1++((L3++L4)++Lb))/\(dT k/\dT t/\dT s)/\du w L3 6 A3 c3 (i.map R.D)/\du w L4 6 A4 c4 (y.map R.D) /\
   (w.cell? ⟨g,o+m*5,none⟩=some (.int .i64 k)/\w.cell? ⟨g,o+m*5+1,none⟩=some (.int .i64 t)/\w.cell? ⟨g,o+m*5+2,none⟩=some (.int .i64 s)/\w.cell? ⟨g,o+m*5+3,none⟩=some (.slice A3 i.length c3)/\w.cell? ⟨g,o+m*5+4,none⟩=some (.slice A4 y.length c4)) /\
   ∀(w':World) (i' y':List R) (Xz:Option Addr) (Ud:Nat) (KA:List Nat) (XA:Option Addr) (XB:Nat) (KB:List Nat),du w' KA 6 Xz Ud (i'.map R.D)->du w' KB 6 XA XB (y'.map R.D)->w.heap.size<=w'.heap.size->(∀b,b∈L1\/b∈Lb->j4 w w' b)->(∀j,w'.frozen? ⟨g,j,none⟩=false) ->
    (∀j,j≠o+m*5+3->j≠o+m*5+4->w'.cell? ⟨g,j,none⟩=w.cell? ⟨g,j,none⟩)->w'.cell? ⟨g,o+m*5+3,none⟩=some (.slice Xz i'.length Ud)->w'.cell? ⟨g,o+m*5+4,none⟩=some (.slice XA y'.length XB)->du w' (g :: (L1++((KA++KB)++Lb))) 5 A2 c2 ((x2.set m (.mk k t s i' y')).map cr.D):=by
 obtain⟨g,o,L1,Le,Lb,vs,rfl,hg,hf,rfl,hv,hl,hc,put⟩:=h.at2 m (by simpa using hm)
 rw[List.getElem_map,hx]at hv
 obtain⟨A3,c3,L3,A4,c4,L4,rfl,rfl,hk,ht,hs,r3,r4⟩:=cr.mw hv
 refine⟨g,o,L1,Lb,A3,c3,L3,A4,c4,L4,rfl,hg,hf,rfl,⟨hk,ht,hs⟩,r3,r4,⟨hc 0 aI,hc 1 aI,hc 2 aI,hc 3 aI,hc 4 aI⟩,fun w' i' y' Xz Ud KA XA XB KB q3 q4 hz hS hF hC h3 h4=>?_⟩
 rw[List.map_set]
 refine put w' (cr.mk k t s i' y').D _ (KA++KB) (cr.kL hk ht hs q3 q4) rfl hz hS hF (fun j hj=>hC j aF aF) (fun j hj=>?_)
 match j,hj with
 | 0,_=>exact (hC _ aF aF).trans (hc 0 aI)
 | 1,_=>exact (hC _ aF aF).trans (hc 1 aI)
 | 2,_=>exact (hC _ aF aF).trans (hc 2 aI)
 | 3,_=>exact h3
 | 4,_=>exact h4
 | n+5,h=>omega
structure WO (N:Nat) (w:World) (q:Nat) (t:O) (vs:List Value) (L:List Nat):Prop where
 lt:q<w.heap.size
 fr:∀o,w.frozen? ⟨q,o,none⟩=false
 cell:∀j,j<13->w.cell? ⟨q,j,none⟩=vs[j]?
 own:Y.dh w L t.D vs
 nd:L.Nodup
 low:∀b,b∈L->N<=b/\b≠q
theorem WO.on {N:Nat} {w w':World} {q:Nat} {t:O} {vs:List Value} {L:List Nat} (h:WO N w q t vs L) (hb:U w w'):WO N w' q t vs L :=
 ⟨au h.lt hb.size,fun o=>(hb.IL q h.lt o).trans (h.fr o),fun j hj=>(hb.box q h.lt j).trans (h.cell j hj),h.own.de hb,h.nd,h.low⟩
structure mf (N:Nat) (w w':World):Prop where
 os:w'.os=w.os
 tape:w'.tape=w.tape
 output:w'.output=w.output
 size:w.heap.size<=w'.heap.size
 block:∀b,b<N->w'.heap[b]?=w.heap[b]?
theorem mf.refl (N:Nat) (w:World):mf N w w:=⟨rfl,rfl,rfl,Nat.le_refl _,fun _ _=>rfl⟩
theorem mf.trans {N:Nat} {a b c:World} (h:mf N a b) (k:mf N b c):mf N a c:=⟨k.os.trans h.os,k.tape.trans h.tape,k.output.trans h.output,aw h.size k.size,fun x hx=>(k.block x hx).trans (h.block x hx)⟩
theorem mf.dH {N:Nat} {a b:World} (h:U a b) (hN:N<=a.heap.size):mf N a b:=⟨Below.os h,Below.tape h,Below.output h,U.size h,fun x hx=>Below.block h x aF⟩
theorem mf.BH {N:Nat} {S:Nat->Prop} {a b:World} (h:gp S a b) (hN:N<=a.heap.size) (hS:∀x,x<N->S x):mf N a b:=⟨h.os,h.tape,h.output,h.size,fun x hx=>h.block x (hS x hx) aF⟩
theorem mf.DX {N:Nat} {w a b:World} (h:mf N a b) (h0:U w a) (hN:w.heap.size<=N):U w b:=Below.trans h0 ⟨h.os,h.tape,h.output,h.size,fun i hi=>h.block i (au hi hN)⟩
section
variable {N:Nat} {w w':World} {q:Nat} {vs:List Value} {L:List Nat} {x0:List cx} {x1:List cw} {x2:List cr} {x3:List R} {x4:cx} {x5:Int} {x6 x7:List cx} {x8:List cV} {x9:Bool} {F G Z:Int}
theorem WO.parts (h:WO N w q (.mk x0 x1 x2 x3 x4 x5 x6 x7 x8 x9 F G Z) vs L):∃A0 c0 L0 A1 c1 L1 A2 c2 L2 A3 c3 L3 A6 c6 L6 A7 c7 L7 A8 c8 L8,L=L0++(L1++(L2++(L3++(L6++(L7++L8)))))/\vs=[.slice A0 x0.length c0,.slice A1 x1.length c1,.slice A2 x2.length c2,.slice A3 x3.length c3,.string x4,.int .i64 x5,.slice A6 x6.length c6,.slice A7 x7.length c7,.slice A8 x8.length c8,.bool x9,.int .i64 F,.int .i64 G,.int .i64 Z]/\du w L0 1 A0 c0 (x0.map (fun x=>[Y.str x]))/\du w L1 3 A1 c1 (x1.map cw.D)/\du w L2 5 A2 c2 (x2.map cr.D)/\du w L3 6 A3 c3 (x3.map R.D)/\x4.size<=maxLen/\dT x5/\du w L6 1 A6 c6 (x6.map (fun x=>[Y.str x]))/\du w L7 1 A7 c7 (x7.map (fun x=>[Y.str x]))/\du w L8 2 A8 c8 (x8.map cV.D)/\True/\dT F/\dT G/\dT Z:=O.mw h.own
theorem WO.ae3 (h:WO N w q (.mk x0 x1 x2 x3 x4 x5 x6 x7 x8 x9 F G Z) vs L) {A0 A1 A2 A3 A6 A7 A8:Option Addr} {c0 c1 c2 c3 c6 c7 c8:Nat} {L0 L1 L2 L3 L6 L7 L8:List Nat} (hL:L=L0++(L1++(L2++(L3++(L6++(L7++L8)))))) (tK:vs=[.slice A0 x0.length c0,.slice A1 x1.length c1,.slice A2 x2.length c2,.slice A3 x3.length c3,.string x4,.int .i64 x5,.slice A6 x6.length c6,.slice A7 x7.length c7,.slice A8 x8.length c8,.bool x9,.int .i64 F,.int .i64 G,.int .i64 Z])
  (r0:du w L0 1 A0 c0 (x0.map (fun x=>[Y.str x]))) (r1:du w L1 3 A1 c1 (x1.map cw.D)) (r3:du w L3 6 A3 c3 (x3.map R.D)) (h4:x4.size<=maxLen) (h5:dT x5) (r6:du w L6 1 A6 c6 (x6.map (fun x=>[Y.str x]))) (r7:du w L7 1 A7 c7 (x7.map (fun x=>[Y.str x]))) (r8:du w L8 2 A8 c8 (x8.map cV.D)) (Be:dT F) (CU:dT G) (CV:dT Z)
  {L2':List Nat} {y2:List cr} (hy:y2.length=x2.length) (hr:du w' L2' 5 A2 c2 (y2.map cr.D)) (hn:L2'.Nodup) (hb:∀b,b∈L2'->b∈L2\/w.heap.size<=b) (hN:N<=w.heap.size) (mV:gp (fun b=>b∉L2) w w'):WO N w' q (.mk x0 x1 y2 x3 x4 x5 x6 x7 x8 x9 F G Z) vs (L0++(L1++(L2'++(L3++(L6++(L7++L8)))))):=by
 subst hL
 have DJ:=h.nd
 have Bm:=h.low
 have jP:=h.lt
 simp only[List.nodup_append,List.mem_append]at DJ
 obtain⟨n0,⟨n1,⟨n2,⟨n3,⟨n6,⟨n7,n8,d78⟩,d6⟩,d3⟩,d2⟩,d1⟩,d0⟩:=DJ
 have off:∀b,b∉L2->b<w.heap.size->j4 w w' b:=fun b hb hl=>mV.same b hb hl
 have P2:q∉L2:=fun e=>(Bm q bU).2 rfl
 have k0:=r0.keep mV.size (fun b hb=>off b (fun e=>d0 b hb b bU rfl) (r0.lt b hb))
 have k1:=r1.keep mV.size (fun b hb=>off b (fun e=>d1 b hb b bU rfl) (r1.lt b hb))
 have k3:=r3.keep mV.size (fun b hb=>off b (fun e=>d2 b e b bu rfl) (r3.lt b hb))
 have k6:=r6.keep mV.size (fun b hb=>off b (fun e=>d2 b e b bu rfl) (r6.lt b hb))
 have k7:=r7.keep mV.size (fun b hb=>off b (fun e=>d2 b e b bu rfl) (r7.lt b hb))
 have k8:=r8.keep mV.size (fun b hb=>off b (fun e=>d2 b e b bu rfl) (r8.lt b hb))
 refine⟨au jP mV.size,fun o=>((off q P2 jP).2 o).trans (h.fr o),fun j hj=>((off q P2 jP).1 j).trans (h.cell j hj),?_,?_,fun b Ma=>?_⟩
 ·
  rw[tK,<-hy]
  exact O.kL k0 k1 hr k3 h4 h5 k6 k7 k8 Be CU CV
 ·
  have a3:(L3++(L6++(L7++L8))).Nodup:=by
   simp only[List.nodup_append,List.mem_append]
   exact⟨n3,⟨n6,⟨n7,n8,d78⟩,d6⟩,d3⟩
  have lt3:∀b,b∈L3++(L6++(L7++L8))->b<w.heap.size:=fun b hb=>by
   simp only[List.mem_append]at hb
   rcases hb with q | q | q | q
   ·
    exact r3.lt b q
   ·
    exact r6.lt b q
   ·
    exact r7.lt b q
   ·
    exact r8.lt b q
  refine ke n0 (ke n1 (ke hn a3 fun b Ma hm=>?_) fun b Ma hm=>?_) fun b Ma hm=>?_
  ·
   rcases hb b Ma with e | e
   ·
    exact d2 b e b bw rfl
   ·
    have:=lt3 b hm;omega
  ·
   rcases List.mem_append.1 hm with hm | hm
   ·
    rcases hb b hm with e | e
    ·
     exact d1 b Ma b bU rfl
    ·
     have:=r1.lt b Ma;omega
   ·
    exact d1 b Ma b bw rfl
  ·
   rcases List.mem_append.1 hm with hm | hm
   ·
    exact d0 b Ma b (by simp[hm]) rfl
   ·
    rcases List.mem_append.1 hm with hm | hm
    ·
     rcases hb b hm with e | e
     ·
      exact d0 b Ma b bU rfl
     ·
      have:=r0.lt b Ma;omega
    ·
     exact d0 b Ma b bw rfl
 ·
  simp only[List.mem_append]at Ma
  rcases Ma with e | e | e | e
  ·
   exact Bm b bU
  ·
   exact Bm b bU
  ·
   rcases hb b e with e | e
   ·
    exact Bm b bU
   ·
    exact⟨by omega,by omega⟩
  ·
   exact Bm b (by simp only[List.mem_append];right;right;right;exact e)
end
section
variable {N:Nat} {w w':World} {q:Nat} {vs:List Value} {L:List Nat} {x0:List cx} {x1:List cw} {x2:List cr} {x3:List R} {x4:cx} {x5:Int} {x6 x7:List cx} {x8:List cV} {x9:Bool} {F G Z:Int}
theorem WO.item (h:WO N w q (.mk x0 x1 x2 x3 x4 x5 x6 x7 x8 x9 F G Z) vs L) (hN:N<=w.heap.size) {m:Nat} (hm:m<x2.length) {k t s:Int} {i y:List R} (hx:x2[m]=.mk k t s i y) {j:Nat} (hj:j<i.length) :
  ∃g o c2 g3 o3 c3,w.cell? ⟨q,2,none⟩=some (.slice (some ⟨g,o,none⟩) x2.length c2)/\w.cell? ⟨g,o+m*5+3,none⟩=some (.slice (some ⟨g3,o3,none⟩) i.length c3)/\g<w.heap.size/\g3<w.heap.size/\g≠q/\g3≠q/\w.there g3 (o3+j*6) 6/\(x2.length<=c2/\c2<=maxLen/\i.length<=c3/\c3<=maxLen) /\
   ∀v:cC,v.Ok->(∃L',WO N (w.setCells g3 (o3+j*6) (nT v)) q (.mk x0 x1 (x2.set m (.mk k t s (i.set j v.tv) y)) x3 x4 x5 x6 x7 x8 x9 F G Z) vs L')/\mf N w (w.setCells g3 (o3+j*6) (nT v)):=by
 obtain⟨A0,c0,L0,A1,c1,L1,A2,c2,L2,A3,c3,L3,A6,c6,L6,A7,c7,L7,A8,c8,L8,hL,tK,r0,r1,r2,r3,h4,h5,r6,r7,r8,-,Be,CU,CV⟩:=h.parts
 have sd:∀b,b∈L2->N<=b/\b≠q:=fun b hb=>h.low b (by rw[hL];simp[hb])
 have E9:L2.Nodup:=by
  have h1:=h.nd
  rw[hL]at h1
  simp only[List.nodup_append]at h1
  exact h1.2.1.2.1.1
 obtain⟨g,o,La,Lb,B3,d3,M3,B4,d4,M4,rfl,hg,hf,rfl,hi,q3,q4,⟨k0,k1,k2,k3,k4⟩,put⟩:=P1 r2 hm hx
 have P3:=(List.nodup_cons.1 E9).2
 have Vf:=(List.nodup_cons.1 E9).1
 simp only[List.nodup_append,List.mem_append]at P3
 obtain⟨na,⟨⟨n3,n4,d34⟩,nb,d3b⟩,dab⟩:=P3
 obtain⟨g3,o3,M3',rfl,Je,hf3,rfl,yK,rT⟩:=P0 q3 n3 hj
 have hgg:g≠g3:=fun e=>Vf (by rw[e];simp)
 have BI:w.cell? ⟨q,2,none⟩=some (.slice (some ⟨g,o,none⟩) x2.length c2):=by rw[h.cell 2 aI,tK];rfl
 refine⟨g,o,c2,g3,o3,d3,BI,k3,hg,Je,(sd g aJ).2,(sd g3 aJ).2,yK,⟨by simpa using r2.1,r2.2.1,by simpa using q3.1,q3.2.1⟩,fun v hv=>?_⟩
 have mV:gp (fun b=>b≠g3) w (w.setCells g3 (o3+j*6) (nT v)):=oa g3 _ _ w (fun e=>e rfl)
 have same:∀b,b≠g3->j4 w (w.setCells g3 (o3+j*6) (nT v)) b:=fun b hb=>⟨fun o=>World.cell?_of_block (hU hb _ _ w),fun o=>World.frozen?_of_block (hU hb _ _ w)⟩
 have hz:w.heap.size<=(w.setCells g3 (o3+j*6) (nT v)).heap.size:=mV.size
 have yc:=put _ (i.set j v.tv) y (some ⟨g3,o3,none⟩) d3 (g3 :: M3') B4 d4 M4 (rT v hv) (q4.keep hz (fun b hb=>same b (fun e=>d34 g3 aJ b hb e.symm))) hz (fun b hb=>same b (fun e=>by
   rcases hb with hb | hb
   ·
    exact dab b hb g3 aJ e
   ·
    exact d3b g3 aJ b hb e.symm)) (fun j=>((same g hgg).2 j).trans (hf j)) (fun j _ _=>(same g hgg).1 j) (by rw[(same g hgg).1,List.length_set];exact k3) (((same g hgg).1 _).trans k4)
 refine⟨⟨_,h.ae3 hL tK r0 r1 r3 h4 h5 r6 r7 r8 Be CU CV (List.length_set ..) yc E9 (fun b hb=>Or.inl hb) hN (mV.narrow (fun b hb e=>hb (by rw[e];simp)))⟩,mf.BH mV hN (fun b hb e=>by have:=(sd g3 aJ).1;omega)⟩
theorem WO.ae5 (h:WO N w q (.mk x0 x1 x2 x3 x4 x5 x6 x7 x8 x9 F G Z) vs L) (hN:N<=w.heap.size) {j:Nat} (hj:j<x3.length) :
  ∃g3 o3 c3,w.cell? ⟨q,3,none⟩=some (.slice (some ⟨g3,o3,none⟩) x3.length c3)/\g3<w.heap.size/\g3≠q/\w.there g3 (o3+j*6) 6/\(x3.length<=c3/\c3<=maxLen) /\
   ∀v:cC,v.Ok->(∃L',WO N (w.setCells g3 (o3+j*6) (nT v)) q (.mk x0 x1 x2 (x3.set j v.tv) x4 x5 x6 x7 x8 x9 F G Z) vs L')/\mf N w (w.setCells g3 (o3+j*6) (nT v)):=by
 obtain⟨A0,c0,L0,A1,c1,L1,A2,c2,L2,A3,c3,L3,A6,c6,L6,A7,c7,L7,A8,c8,L8,hL,tK,r0,r1,r2,r3,h4,h5,r6,r7,r8,-,Be,CU,CV⟩:=h.parts
 have XC:∀b,b∈L3->N<=b/\b≠q:=fun b hb=>h.low b (by rw[hL];simp[hb])
 have DJ:=h.nd
 rw[hL]at DJ
 simp only[List.nodup_append,List.mem_append]at DJ
 obtain⟨n0,⟨n1,⟨n2,⟨n3,⟨n6,⟨n7,n8,d78⟩,d6⟩,d3⟩,d2⟩,d1⟩,d0⟩:=DJ
 obtain⟨g3,o3,M3,rfl,Je,hf3,rfl,yK,rT⟩:=P0 r3 n3 hj
 have GM:w.cell? ⟨q,3,none⟩=some (.slice (some ⟨g3,o3,none⟩) x3.length c3):=by rw[h.cell 3 aI,tK];rfl
 have hq3:=(XC g3 aJ).2
 refine⟨g3,o3,c3,GM,Je,hq3,yK,⟨by simpa using r3.1,r3.2.1⟩,fun v hv=>?_⟩
 have mV:gp (fun b=>b≠g3) w (w.setCells g3 (o3+j*6) (nT v)):=oa g3 _ _ w (fun e=>e rfl)
 have same:∀b,b≠g3->j4 w (w.setCells g3 (o3+j*6) (nT v)) b:=fun b hb=>⟨fun o=>World.cell?_of_block (hU hb _ _ w),fun o=>World.frozen?_of_block (hU hb _ _ w)⟩
 have hz:w.heap.size<=(w.setCells g3 (o3+j*6) (nT v)).heap.size:=mV.size
 refine⟨⟨L,⟨au h.lt hz,fun o=>((same q (Ne.symm hq3)).2 o).trans (h.fr o),fun j hj=>((same q (Ne.symm hq3)).1 j).trans (h.cell j hj),?_,h.nd,h.low⟩⟩,mf.BH mV hN (fun b hb e=>by have:=(XC g3 aJ).1;omega)⟩
 rw[hL,tK]
 have hlen:x3.length=(x3.set j v.tv).length:=(List.length_set ..).symm
 rw[hlen]
 exact O.kL (r0.keep hz (fun b hb=>same b (fun e=>d0 b hb g3 aJ e))) (r1.keep hz (fun b hb=>same b (fun e=>d1 b hb g3 aJ e))) (r2.keep hz (fun b hb=>same b (fun e=>d2 b hb g3 aJ e))) (rT v hv) h4 h5 (r6.keep hz (fun b hb=>same b (fun e=>d3 g3 aJ b bu e.symm))) (r7.keep hz (fun b hb=>same b (fun e=>d3 g3 aJ b bu e.symm))) (r8.keep hz (fun b hb=>same b (fun e=>d3 g3 aJ b bu e.symm))) Be CU CV
theorem xI {w:World} {q a:Nat} {vs:List Value} {u:Value} (hc:∀j,j<13->w.cell? ⟨q,j,none⟩=vs[j]?) (ha:a<13) (hl:vs.length=13):∀j,j<13->(w.setCell ⟨q,a,none⟩ u).cell? ⟨q,j,none⟩=(vs.set a u)[j]?:=fun j hj=>by
 by_cases e:a=j
 ·
  subst e
  rw[World.cell?_setCell_same (h:=(hc a ha).trans (List.getElem?_eq_getElem (show a<vs.length by omega))),List.getElem?_set_self (show a<vs.length by omega)]
 ·
  rw[World.cell?_setCell_other _ _ _ _ (fun h=>e (by injection h)),List.getElem?_set_ne e]
  exact hc j hj
theorem WO.text (h:WO N w q (.mk x0 x1 x2 x3 x4 x5 x6 x7 x8 x9 F G Z) vs L) (hN:N<=w.heap.size) (Us:N<=q) {t:cx} (ht:t.size<=maxLen):(∃us L',WO N ((w.setCell ⟨q,4,none⟩ (.string t)).setCell ⟨q,5,none⟩ (.int .i64 1)) q (.mk x0 x1 x2 x3 t 1 x6 x7 x8 x9 F G Z) us L')/\mf N w ((w.setCell ⟨q,4,none⟩ (.string t)).setCell ⟨q,5,none⟩ (.int .i64 1)):=by
 obtain⟨A0,c0,L0,A1,c1,L1,A2,c2,L2,A3,c3,L3,A6,c6,L6,A7,c7,L7,A8,c8,L8,hL,tK,r0,r1,r2,r3,h4,h5,r6,r7,r8,-,Be,CU,CV⟩:=h.parts
 have mV:gp (fun b=>b≠q) w ((w.setCell ⟨q,4,none⟩ (.string t)).setCell ⟨q,5,none⟩ (.int .i64 1)):=gp.set (gp.set (gp.refl _ w) (fun e=>e rfl) _) (fun e=>e rfl) _
 have low:∀b,b∈L->b≠q:=fun b hb=>(h.low b hb).2
 have same:∀b,b∈L->j4 w ((w.setCell ⟨q,4,none⟩ (.string t)).setCell ⟨q,5,none⟩ (.int .i64 1)) b:=fun b hb=>mV.same b (low b hb) (h.own.lt _ _ _ b hb)
 rw[hL]at same
 have hl:vs.length=13:=by rw[tK];rfl
 refine⟨⟨_,L,⟨by simpa using h.lt,fun o=>by simp[h.fr],xI (xI h.cell aI hl) aI (by simpa using hl),?_,h.nd,h.low⟩⟩,mf.BH mV hN (fun b hb=>by omega)⟩
 rw[hL,tK]
 exact O.kL (r0.keep mV.size (fun b hb=>same b bu)) (r1.keep mV.size (fun b hb=>same b bu)) (r2.keep mV.size (fun b hb=>same b bu)) (r3.keep mV.size (fun b hb=>same b bu)) ht aO (r6.keep mV.size (fun b hb=>same b bu)) (r7.keep mV.size (fun b hb=>same b bu)) (r8.keep mV.size (fun b hb=>same b bu)) Be CU CV
theorem WO.pos (h:WO N w q (.mk x0 x1 x2 x3 x4 x5 x6 x7 x8 x9 F G Z) vs L) (hN:N<=w.heap.size) (Us:N<=q) {p:Int} (hp:dT p):(∃us L',WO N (w.setCell ⟨q,5,none⟩ (.int .i64 p)) q (.mk x0 x1 x2 x3 x4 p x6 x7 x8 x9 F G Z) us L')/\mf N w (w.setCell ⟨q,5,none⟩ (.int .i64 p)):=by
 obtain⟨A0,c0,L0,A1,c1,L1,A2,c2,L2,A3,c3,L3,A6,c6,L6,A7,c7,L7,A8,c8,L8,hL,tK,r0,r1,r2,r3,h4,h5,r6,r7,r8,-,Be,CU,CV⟩:=h.parts
 have mV:gp (fun b=>b≠q) w (w.setCell ⟨q,5,none⟩ (.int .i64 p)):=gp.set (gp.refl _ w) (fun e=>e rfl) _
 have low:∀b,b∈L->b≠q:=fun b hb=>(h.low b hb).2
 have same:∀b,b∈L->j4 w (w.setCell ⟨q,5,none⟩ (.int .i64 p)) b:=fun b hb=>mV.same b (low b hb) (h.own.lt _ _ _ b hb)
 rw[hL]at same
 have hl:vs.length=13:=by rw[tK];rfl
 refine⟨⟨_,L,⟨by simpa using h.lt,fun o=>by simp[h.fr],xI h.cell aI hl,?_,h.nd,h.low⟩⟩,mf.BH mV hN (fun b hb=>by omega)⟩
 rw[hL,tK]
 exact O.kL (r0.keep mV.size (fun b hb=>same b bu)) (r1.keep mV.size (fun b hb=>same b bu)) (r2.keep mV.size (fun b hb=>same b bu)) (r3.keep mV.size (fun b hb=>same b bu)) h4 hp (r6.keep mV.size (fun b hb=>same b bu)) (r7.keep mV.size (fun b hb=>same b bu)) (r8.keep mV.size (fun b hb=>same b bu)) Be CU CV
end
section
variable {N:Nat} {w:World} {q:Nat} {vs:List Value} {L:List Nat} {x0:List cx} {x1:List cw} {x2:List cr} {x3:List R} {x4:cx} {x5:Int} {x6 x7:List cx} {x8:List cV} {x9:Bool} {F G Z:Int}
theorem WO.lists (h:WO N w q (.mk x0 x1 x2 x3 x4 x5 x6 x7 x8 x9 F G Z) vs L) (hN:N<=w.heap.size) {m:Nat} (hm:m<x2.length) {k t s:Int} {i y:List R} (hx:x2[m]=.mk k t s i y) :
  ∃g o c2 A3 c3 L3 A4 c4 L4,w.cell? ⟨q,2,none⟩=some (.slice (some ⟨g,o,none⟩) x2.length c2)/\g<w.heap.size/\N<=g/\g≠q/\(∀j,w.frozen? ⟨g,j,none⟩=false) /\
   (w.cell? ⟨g,o+m*5,none⟩=some (.int .i64 k)/\w.cell? ⟨g,o+m*5+1,none⟩=some (.int .i64 t)/\w.cell? ⟨g,o+m*5+2,none⟩=some (.int .i64 s)/\w.cell? ⟨g,o+m*5+3,none⟩=some (.slice A3 i.length c3)/\w.cell? ⟨g,o+m*5+4,none⟩=some (.slice A4 y.length c4)) /\
   du w L3 6 A3 c3 (i.map R.D)/\du w L4 6 A4 c4 (y.map R.D)/\L3.Nodup/\L4.Nodup/\(∀b,b∈L3->N<=b/\b≠q/\b≠g/\b∉L4)/\(∀b,b∈L4->N<=b/\b≠q/\b≠g/\b∉L3)/\(x2.length<=c2/\c2<=maxLen) /\
   ∀(w':World) (i' y':List R) (Xz:Option Addr) (Ud:Nat) (KA:List Nat) (XA:Option Addr) (XB:Nat) (KB:List Nat),du w' KA 6 Xz Ud (i'.map R.D)->du w' KB 6 XA XB (y'.map R.D)->KA.Nodup->KB.Nodup->(∀b,b∈KA->b∉KB)->(∀b,b∈KA\/b∈KB->b∈L3\/b∈L4\/w.heap.size<=b) ->
    gp (fun b=>b≠g/\b∉L3/\b∉L4) w w'->(∀j,w'.frozen? ⟨g,j,none⟩=false)->(∀j,j≠o+m*5+3->j≠o+m*5+4->w'.cell? ⟨g,j,none⟩=w.cell? ⟨g,j,none⟩)->w'.cell? ⟨g,o+m*5+3,none⟩=some (.slice Xz i'.length Ud)->w'.cell? ⟨g,o+m*5+4,none⟩=some (.slice XA y'.length XB) ->
    (∃L',WO N w' q (.mk x0 x1 (x2.set m (.mk k t s i' y')) x3 x4 x5 x6 x7 x8 x9 F G Z) vs L')/\mf N w w':=by
 obtain⟨A0,c0,L0,A1,c1,L1,A2,c2,L2,A3,c3,L3,A6,c6,L6,A7,c7,L7,A8,c8,L8,hL,tK,r0,r1,r2,r3,h4,h5,r6,r7,r8,-,Be,CU,CV⟩:=h.parts
 have sd:∀b,b∈L2->N<=b/\b≠q:=fun b hb=>h.low b (by rw[hL];simp[hb])
 have E9:L2.Nodup:=by
  have h1:=h.nd
  rw[hL]at h1
  simp only[List.nodup_append]at h1
  exact h1.2.1.2.1.1
 obtain⟨g,o,La,Lb,B3,d3,M3,B4,d4,M4,rfl,hg,hf,rfl,hi,q3,q4,Fk,put⟩:=P1 r2 hm hx
 have P3:=(List.nodup_cons.1 E9).2
 have Vf:=(List.nodup_cons.1 E9).1
 simp only[List.nodup_append,List.mem_append]at P3
 obtain⟨na,⟨⟨n3,n4,d34⟩,nb,d3b⟩,dab⟩:=P3
 have BI:w.cell? ⟨q,2,none⟩=some (.slice (some ⟨g,o,none⟩) x2.length c2):=by rw[h.cell 2 aI,tK];rfl
 refine⟨g,o,c2,B3,d3,M3,B4,d4,M4,BI,hg,(sd g aJ).1,(sd g aJ).2,hf,Fk,q3,q4,n3,n4,fun b hb=>⟨(sd b bu).1,(sd b bu).2,fun e=>Vf (by rw[<-e];simp[hb]),fun e=>d34 b hb b e rfl⟩,fun b hb=>⟨(sd b bu).1,(sd b bu).2,fun e=>Vf (by rw[<-e];simp[hb]),fun e=>d34 b e b hb rfl⟩,⟨by simpa using r2.1,r2.2.1⟩,?_⟩
 intro w' i' y' Xz Ud KA XA XB KB p3 p4 m3 m4 m34 mb mV hF hC e3 e4
 have hla:=r2.lt
 have ltA:∀b,b∈La->b<w.heap.size:=fun b hb=>hla b bu
 have ltB:∀b,b∈Lb->b<w.heap.size:=fun b hb=>hla b bu
 have na2:∀b,b∈La\/b∈Lb->b≠g/\b∉M3/\b∉M4:=fun b hb=>by
  refine⟨fun e=>Vf (by rw[<-e];rcases hb with q | q <;> simp[q]),fun e=>?_,fun e=>?_⟩
  ·
   rcases hb with q | q
   ·
    exact dab b q b bU rfl
   ·
    exact d3b b bU b q rfl
  ·
   rcases hb with q | q
   ·
    exact dab b q b bU rfl
   ·
    exact d3b b bU b q rfl
 have yc:=put w' i' y' Xz Ud KA XA XB KB p3 p4 mV.size (fun b hb=>mV.same b (na2 b hb) (hb.elim (ltA b) (ltB b))) hF hC e3 e4
 have Fl:∀b,b∈KA\/b∈KB->b∉La/\b∉Lb/\b≠g:=fun b hb=>by
  rcases mb b hb with e | e | e
  ·
   exact⟨fun q=>(na2 b (Or.inl q)).2.1 e,fun q=>(na2 b (Or.inr q)).2.1 e,fun q=>Vf (by rw[<-q];simp[e])⟩
  ·
   exact⟨fun q=>(na2 b (Or.inl q)).2.2 e,fun q=>(na2 b (Or.inr q)).2.2 e,fun q=>Vf (by rw[<-q];simp[e])⟩
  ·
   exact⟨fun q=>by have:=ltA b q;omega,fun q=>by have:=ltB b q;omega,by omega⟩
 have hnn:(g :: (La++((KA++KB)++Lb))).Nodup:=by
  refine List.nodup_cons.2 ⟨fun hm=>?_,ke na (ke (ke m3 m4 m34) nb fun b hb hm=>?_) fun b hb hm=>?_⟩
  ·
   simp only[List.mem_append]at hm
   rcases hm with e | (e | e) | e
   ·
    exact Vf bU
   ·
    exact (Fl g (Or.inl e)).2.2 rfl
   ·
    exact (Fl g (Or.inr e)).2.2 rfl
   ·
    exact Vf bU
  ·
   exact (Fl b (List.mem_append.1 hb)).2.1 hm
  ·
   simp only[List.mem_append]at hm
   rcases hm with (e | e) | e
   ·
    exact (Fl b (Or.inl e)).1 hb
   ·
    exact (Fl b (Or.inr e)).1 hb
   ·
    exact dab b hb b bU rfl
 have yT:∀b,b∈g :: (La++((KA++KB)++Lb))->b∈g :: (La++((M3++M4)++Lb))\/w.heap.size<=b:=fun b hb=>by
  simp only[List.mem_cons,List.mem_append]at hb |-
  rcases hb with e | e | (e | e) | e
  ·
   exact Or.inl (Or.inl e)
  ·
   exact Or.inl (Or.inr (Or.inl e))
  ·
   rcases mb b (Or.inl e)with e | e | e
   ·
    exact Or.inl (Or.inr (Or.inr (Or.inl (Or.inl e))))
   ·
    exact Or.inl (Or.inr (Or.inr (Or.inl (Or.inr e))))
   ·
    exact Or.inr e
  ·
   rcases mb b (Or.inr e)with e | e | e
   ·
    exact Or.inl (Or.inr (Or.inr (Or.inl (Or.inl e))))
   ·
    exact Or.inl (Or.inr (Or.inr (Or.inl (Or.inr e))))
   ·
    exact Or.inr e
  ·
   exact Or.inl (Or.inr (Or.inr (Or.inr e)))
 exact⟨⟨_,h.ae3 hL tK r0 r1 r3 h4 h5 r6 r7 r8 Be CU CV (List.length_set ..) yc hnn yT hN (mV.narrow (fun b hb=>⟨fun e=>hb bU,fun e=>hb bU,fun e=>hb bU⟩))⟩,mf.BH mV hN (fun b hb=>⟨fun e=>by have:=(sd g aJ).1;omega,fun e=>by have:=(sd b bU).1;omega,fun e=>by have:=(sd b bU).1;omega⟩)⟩
end
section
variable {N:Nat} {w:World} {q:Nat} {vs:List Value} {L:List Nat} {x0:List cx} {x1:List cw} {x2:List cr} {x3:List R} {x4:cx} {x5:Int} {x6 x7:List cx} {x8:List cV} {x9:Bool} {F G Z:Int}
theorem mf.after {N:Nat} {a b c:World} (h:U a b) (hN:N<=a.heap.size) (k:mf N b c):mf N a c:=(mf.dH h hN).trans k
theorem slice_inj {a b:Option Addr} {n c m d:Nat} (h:(some (Value.slice a n c))=some (.slice b m d)):a=b/\n=m/\c=d:=by simpa using h
theorem WO.DY (h:WO N w q (.mk x0 x1 x2 x3 x4 x5 x6 x7 x8 x9 F G Z) vs L) (hN:N<=w.heap.size) {m:Nat} (hm:m<x2.length) {k t s:Int} {i y:List R} (hx:x2[m]=.mk k t s i y) {j:Nat} (hj:j<i.length) :
  ∃g o c2 g3 o3 c3,w.cell? ⟨q,2,none⟩=some (.slice (some ⟨g,o,none⟩) x2.length c2)/\w.cell? ⟨g,o+m*5+3,none⟩=some (.slice (some ⟨g3,o3,none⟩) i.length c3)/\g<w.heap.size/\g3<w.heap.size/\(x2.length<=c2/\c2<=maxLen/\i.length<=c3/\c3<=maxLen) /\
   ∀wa,U w wa->wa.there g3 (o3+j*6) 6/\∀v:cC,v.Ok->(∃L',WO N (wa.setCells g3 (o3+j*6) (nT v)) q (.mk x0 x1 (x2.set m (.mk k t s (i.set j v.tv) y)) x3 x4 x5 x6 x7 x8 x9 F G Z) vs L')/\mf N w (wa.setCells g3 (o3+j*6) (nT v)):=by
 obtain⟨g,o,c2,g3,o3,c3,e1,e2,hg,Je,-,-,-,hc,-⟩:=h.item hN hm hx hj
 refine⟨g,o,c2,g3,o3,c3,e1,e2,hg,Je,hc,fun wa hb=>?_⟩
 obtain⟨g',o',c2',g3',o3',Ud,f1,f2,-,-,-,-,yK,-,put⟩:=(h.on hb).item (aw hN hb.size) hm hx hj
 obtain⟨k1,-,rfl⟩:=slice_inj (((hb.box q h.lt 2).trans e1).symm.trans f1)
 obtain⟨rfl,rfl⟩:g=g'/\o=o':=by simpa using k1
 obtain⟨k2,-,rfl⟩:=slice_inj (((hb.box g hg _).trans e2).symm.trans f2)
 obtain⟨rfl,rfl⟩:g3=g3'/\o3=o3':=by simpa using k2
 exact⟨yK,fun v hv=>⟨(put v hv).1,mf.after hb hN (put v hv).2⟩⟩
theorem WO.XD (h:WO N w q (.mk x0 x1 x2 x3 x4 x5 x6 x7 x8 x9 F G Z) vs L) (hN:N<=w.heap.size) {j:Nat} (hj:j<x3.length) :
  ∃g3 o3 c3,w.cell? ⟨q,3,none⟩=some (.slice (some ⟨g3,o3,none⟩) x3.length c3)/\g3<w.heap.size/\(x3.length<=c3/\c3<=maxLen) /\
   ∀wa,U w wa->wa.there g3 (o3+j*6) 6/\∀v:cC,v.Ok->(∃L',WO N (wa.setCells g3 (o3+j*6) (nT v)) q (.mk x0 x1 x2 (x3.set j v.tv) x4 x5 x6 x7 x8 x9 F G Z) vs L')/\mf N w (wa.setCells g3 (o3+j*6) (nT v)):=by
 obtain⟨g3,o3,c3,e1,Je,-,-,hc,-⟩:=h.ae5 hN hj
 refine⟨g3,o3,c3,e1,Je,hc,fun wa hb=>?_⟩
 obtain⟨g3',o3',Ud,f1,-,-,yK,-,put⟩:=(h.on hb).ae5 (aw hN hb.size) hj
 obtain⟨k1,-,rfl⟩:=slice_inj (((hb.box q h.lt 3).trans e1).symm.trans f1)
 obtain⟨rfl,rfl⟩:g3=g3'/\o3=o3':=by simpa using k1
 exact⟨yK,fun v hv=>⟨(put v hv).1,mf.after hb hN (put v hv).2⟩⟩
end
section
variable {N:Nat} {w:World} {q:Nat} {vs:List Value} {L:List Nat} {x0:List cx} {x1:List cw} {x2:List cr} {x3:List R} {x4:cx} {x5:Int} {x6 x7:List cx} {x8:List cV} {x9:Bool} {F G Z:Int}
theorem WO.ae7 (h:WO N w q (.mk x0 x1 x2 x3 x4 x5 x6 x7 x8 x9 F G Z) vs L):∃A2 c2,w.cell? ⟨q,2,none⟩=some (.slice A2 x2.length c2)/\Row w (fun _=>True) 5 A2 c2 (x2.map cr.D):=by
 obtain⟨A0,c0,L0,A1,c1,L1,A2,c2,L2,A3,c3,L3,A6,c6,L6,A7,c7,L7,A8,c8,L8,hL,tK,r0,r1,r2,-⟩:=h.parts
 exact⟨A2,c2,by rw[h.cell 2 aI,tK];rfl,du.row (fun _ _=>trivial) r2⟩
theorem WO.XE (h:WO N w q (.mk x0 x1 x2 x3 x4 x5 x6 x7 x8 x9 F G Z) vs L) (hN:N<=w.heap.size) {m:Nat} (hm:m<x2.length) {k t s:Int} {i y:List R} (hx:x2[m]=.mk k t s i y) :
  ∃g o c2 A4 c4 L4,w.cell? ⟨q,2,none⟩=some (.slice (some ⟨g,o,none⟩) x2.length c2)/\w.cell? ⟨g,o+m*5+4,none⟩=some (.slice A4 y.length c4)/\g<w.heap.size/\g≠q/\du w L4 6 A4 c4 (y.map R.D)/\L4.Nodup /\
   ∀(w9:World) (A9:Option Addr) (c9:Nat) (L9:List Nat) (y':List R),du w9 L9 6 A9 c9 (y'.map R.D)->L9.Nodup->(∀b,b∈L9->b∈L4\/w.heap.size<=b)->gp (fun b=>b∉L4) w w9 ->
    w9.cell? ⟨q,2,none⟩=some (.slice (some ⟨g,o,none⟩) x2.length c2)/\w9.cell? ⟨g,o+m*5+4,none⟩=some (.slice A4 y.length c4)/\(∀j,w9.frozen? ⟨g,j,none⟩=false) /\
    (∃L',WO N (w9.setCell ⟨g,o+m*5+4,none⟩ (.slice A9 y'.length c9)) q (.mk x0 x1 (x2.set m (.mk k t s i y')) x3 x4 x5 x6 x7 x8 x9 F G Z) vs L')/\mf N w (w9.setCell ⟨g,o+m*5+4,none⟩ (.slice A9 y'.length c9)):=by
 obtain⟨g,o,c2,A3,c3,L3,A4,c4,L4,e2,hg,hgN,Pu,hf,⟨k0,k1,k2,k3,k4⟩,q3,q4,n3,n4,d3,d4,-,put⟩:=h.lists hN hm hx
 refine⟨g,o,c2,A4,c4,L4,e2,k4,hg,Pu,q4,n4,fun w9 A9 c9 L9 y' r9 n9 m9 mV=>?_⟩
 have hgL:g∉L4:=fun e=>(d4 g e).2.2.1 rfl
 have hqL:q∉L4:=fun e=>(d4 q e).2.1 rfl
 have sg:=mV.same g hgL hg
 have sq:=mV.same q hqL h.lt
 have td:∀b,b≠g->j4 w9 (w9.setCell ⟨g,o+m*5+4,none⟩ (.slice A9 y'.length c9)) b:=fun b hb=>⟨fun i=>World.cell?_setCell_other _ _ _ _ (fun e=>hb (by injection e with e1;exact e1.symm)),fun i=>by simp⟩
 have Xg:(w9.setCell ⟨g,o+m*5+4,none⟩ (.slice A9 y'.length c9)).heap.size=w9.heap.size:=aJ
 have Fl:∀b,b∈L9->b≠g:=fun b hb e=>by
  rcases m9 b hb with q | q
  ·
   exact (d4 b q).2.2.1 e
  ·
   omega
 refine⟨(sq.1 2).trans e2,(sg.1 _).trans k4,fun j=>(sg.2 j).trans (hf j),put _ i y' A3 c3 L3 A9 c9 L9 ((q3.keep mV.size fun b hb=>mV.same b (d3 b hb).2.2.2 (q3.lt b hb)).keep (Nat.le_of_eq Xg.symm) fun b hb=>td b (d3 b hb).2.2.1) (r9.keep (Nat.le_of_eq Xg.symm) fun b hb=>td b (Fl b hb)) n3 n9 (fun b hb h9=>?_) (fun b hb=>?_) ?_ (fun j=>by simp only[World.frozen?_setCell];exact (sg.2 j).trans (hf j)) (fun j h1 h2=>?_) ?_ ?_⟩
 ·
  rcases m9 b h9 with q | q
  ·
   exact (d3 b hb).2.2.2 q
  ·
   have:=q3.lt b hb;omega
 ·
  rcases hb with q | q
  ·
   exact Or.inl q
  ·
   exact (m9 b q).elim (fun e=>Or.inr (Or.inl e)) (fun e=>Or.inr (Or.inr e))
 ·
  exact gp.set (mV.narrow (fun b hb=>hb.2.2)) (fun e=>e.1 rfl) _
 ·
  rw[World.cell?_setCell_other _ _ _ _ (fun e=>h2 (by injection e with e1 e2 e3;exact e2.symm))]
  exact sg.1 j
 ·
  rw[World.cell?_setCell_other _ _ _ _ (fun e=>by injection e with e1 e2 e3;omega)]
  exact (sg.1 _).trans k3
 ·
  exact World.cell?_setCell_same _ _ _ ((sg.1 _).trans k4)
theorem WO.XF (h:WO N w q (.mk x0 x1 x2 x3 x4 x5 x6 x7 x8 x9 F G Z) vs L) (hN:N<=w.heap.size) {m:Nat} (hm:m<x2.length) {k t s:Int} {i y:List R} (hx:x2[m]=.mk k t s i y) :
  ∃g o c2 A3 c3 L3,w.cell? ⟨q,2,none⟩=some (.slice (some ⟨g,o,none⟩) x2.length c2)/\w.cell? ⟨g,o+m*5+3,none⟩=some (.slice A3 i.length c3)/\g<w.heap.size/\g≠q/\du w L3 6 A3 c3 (i.map R.D)/\L3.Nodup /\
   ∀(w9:World) (A9:Option Addr) (c9:Nat) (L9:List Nat) (i':List R),du w9 L9 6 A9 c9 (i'.map R.D)->L9.Nodup->(∀b,b∈L9->b∈L3\/w.heap.size<=b)->gp (fun b=>b∉L3) w w9 ->
    w9.cell? ⟨q,2,none⟩=some (.slice (some ⟨g,o,none⟩) x2.length c2)/\w9.cell? ⟨g,o+m*5+3,none⟩=some (.slice A3 i.length c3)/\(∀j,w9.frozen? ⟨g,j,none⟩=false) /\
    (∃L',WO N (w9.setCell ⟨g,o+m*5+3,none⟩ (.slice A9 i'.length c9)) q (.mk x0 x1 (x2.set m (.mk k t s i' y)) x3 x4 x5 x6 x7 x8 x9 F G Z) vs L')/\mf N w (w9.setCell ⟨g,o+m*5+3,none⟩ (.slice A9 i'.length c9)):=by
 obtain⟨g,o,c2,A3,c3,L3,A4,c4,L4,e2,hg,hgN,Pu,hf,⟨k0,k1,k2,k3,k4⟩,q3,q4,n3,n4,d3,d4,-,put⟩:=h.lists hN hm hx
 refine⟨g,o,c2,A3,c3,L3,e2,k3,hg,Pu,q3,n3,fun w9 A9 c9 L9 i' r9 n9 m9 mV=>?_⟩
 have hgL:g∉L3:=fun e=>(d3 g e).2.2.1 rfl
 have hqL:q∉L3:=fun e=>(d3 q e).2.1 rfl
 have sg:=mV.same g hgL hg
 have sq:=mV.same q hqL h.lt
 have td:∀b,b≠g->j4 w9 (w9.setCell ⟨g,o+m*5+3,none⟩ (.slice A9 i'.length c9)) b:=fun b hb=>⟨fun i=>World.cell?_setCell_other _ _ _ _ (fun e=>hb (by injection e with e1;exact e1.symm)),fun i=>by simp⟩
 have Xg:(w9.setCell ⟨g,o+m*5+3,none⟩ (.slice A9 i'.length c9)).heap.size=w9.heap.size:=aJ
 have Fl:∀b,b∈L9->b≠g:=fun b hb e=>by
  rcases m9 b hb with q | q
  ·
   exact (d3 b q).2.2.1 e
  ·
   omega
 refine⟨(sq.1 2).trans e2,(sg.1 _).trans k3,fun j=>(sg.2 j).trans (hf j),put _ i' y A9 c9 L9 A4 c4 L4 (r9.keep (Nat.le_of_eq Xg.symm) fun b hb=>td b (Fl b hb)) ((q4.keep mV.size fun b hb=>mV.same b (d4 b hb).2.2.2 (q4.lt b hb)).keep (Nat.le_of_eq Xg.symm) fun b hb=>td b (d4 b hb).2.2.1) n9 n4 (fun b h9 hb=>?_) (fun b hb=>?_) ?_ (fun j=>by simp only[World.frozen?_setCell];exact (sg.2 j).trans (hf j)) (fun j h1 h2=>?_) ?_ ?_⟩
 ·
  rcases m9 b h9 with q | q
  ·
   exact (d4 b hb).2.2.2 q
  ·
   have:=q4.lt b hb;omega
 ·
  rcases hb with q | q
  ·
   exact (m9 b q).elim (fun e=>Or.inl e) (fun e=>Or.inr (Or.inr e))
  ·
   exact Or.inr (Or.inl q)
 ·
  exact gp.set (mV.narrow (fun b hb=>hb.2.1)) (fun e=>e.1 rfl) _
 ·
  rw[World.cell?_setCell_other _ _ _ _ (fun e=>h1 (by injection e with e1 e2 e3;exact e2.symm))]
  exact sg.1 j
 ·
  exact World.cell?_setCell_same _ _ _ ((sg.1 _).trans k3)
 ·
  rw[World.cell?_setCell_other _ _ _ _ (fun e=>by injection e with e1 e2 e3;omega)]
  exact (sg.1 _).trans k4
end
theorem oc {P:Program} {w:World} {o:Oper} {a:Act} {K:Act->World->Prop} {Q:Exit->Act->World->Prop} (s x:Operand) (t:TypeId) (ho:o.op=.call { callee:=.builtin .append,args:=#[s,x],argTypes:=#[t,t] })
  (E:TypeId) (i:TypeInfo) (z:Value) (ht:P.underlying t=some (.slice E)) (hi:P.info? E=some i) (hz:i.zero=some z) (hsize:i.size=6) (hby:i.bytes=56) (hzs:z.cells.size=6)
  {L:List Nat} {A:Option Addr} {c:Nat} {xs:List R} (hR:du w L 6 A c (xs.map R.D)) (hN:L.Nodup) {ad:Addr} {m:Nat} {v:cC} (hv:v.Ok) (hs:a.eval s=.slice A xs.length c) (hx:a.eval x=.slice (some ad) 1 m) (hc:∀j u,(nT v)[j]?=some u->w.cell? (ad.add j)=some u) (hlen:xs.length<=1000)
  (h:∀A9 c9 L9 w9,du w9 L9 6 A9 c9 ((xs++[v.tv]).map R.D)->L9.Nodup->(∀b,b∈L9->b∈L\/w.heap.size<=b)->gp (fun b=>b∉L) w w9->K (a.put o.dst (.slice A9 (xs.length+1) c9)) w9):o.wp P a w K Q :=
 C8 s x t ho E i z 6 56 ht hi hz hsize hby hzs aI hR hN (tT xs) (d:=v.tv.D) (us:=nT v) (Kz hv) rfl (by rw[ar];exact hs) hx hc (by rw[ar];omega) (by rw[ar];unfold maxLen;omega)
  fun A9 c9 L9 w9 _ h2 h3 h4 h5=>by
   have k:=h A9 c9 L9 w9 (by rw[List.map_append];exact h2) h3 h4 h5
   rw[ar]
   exact k
def GO (N:Nat) (W0 W wq:World) (q g p:Nat) (old:Value) (n:Nat) (vs:List Value) (t':O) (lo:Nat) (sq:Value) (u:Value):Prop :=
 ∃A9 c9,u=.slice A9 n c9/\wq.cell? ⟨g,p,none⟩=some old/\(∀j,wq.frozen? ⟨g,j,none⟩=false)/\(∃L',WO N (wq.setCell ⟨g,p,none⟩ u) q t' vs L')/\mf N W0 (wq.setCell ⟨g,p,none⟩ u)/\W.heap.size<=(wq.setCell ⟨g,p,none⟩ u).heap.size/\(∀b,lo<=b->b<W.heap.size->(wq.setCell ⟨g,p,none⟩ u).heap[b]?=W.heap[b]?)/\(wq.setCell ⟨g,p,none⟩ u).cell? ⟨q,2,none⟩=some sq
theorem Bf {N:Nat} {W0 W wa w9:World} {q g p lo:Nat} {old sq:Value} {n:Nat} {vs:List Value} {t':O} {A9:Option Addr} {c9:Nat} {L:List Nat} (hb:U W wa) (h5:gp (fun b=>b∉L) wa w9) (hL:∀b,b∈L->b<lo) (hg:g<lo) (Pu:g≠q) (h1:w9.cell? ⟨g,p,none⟩=some old) (h2:∀j,w9.frozen? ⟨g,j,none⟩=false) (h3:∃L',WO N (w9.setCell ⟨g,p,none⟩ (.slice A9 n c9)) q t' vs L') (h4:mf N W0 (w9.setCell ⟨g,p,none⟩ (.slice A9 n c9))) (h6:w9.cell? ⟨q,2,none⟩=some sq):GO N W0 W w9 q g p old n vs t' lo sq (.slice A9 n c9):=by
 refine⟨A9,c9,rfl,h1,h2,h3,h4,by rw[World.size_setCell];exact aw hb.size h5.size,fun b yM jP=>?_,?_⟩
 ·
  have e:(w9.setCell ⟨g,p,none⟩ (.slice A9 n c9)).heap[b]?=w9.heap[b]?:=by
   unfold World.setCell
   split
   all_goals
    show (w9.heap.modify g _)[b]?=_
    rw[Array.getElem?_modify,if_neg aF]
  exact e.trans ((h5.block b (fun e=>by have:=hL b e;omega) (au jP hb.size)).trans (Below.block hb b jP))
 ·
  rw[World.cell?_setCell_other _ _ _ _ (fun e=>Pu (by injection e))]
  exact h6
end Go.Proofs.YtjngkknbpfgdcaaGreatDoor
