/- A store that holds another's objects is as valid; the copy of a structure keeps a store valid: plain. -/
import Derived.Test.YtoikhhnmbbbjjaaDoorPr
import Derived.Test.YtoikhhnmbbbjjaaDoorPK1
import Derived.Test.YtoikhhnmbbbjjaaDoorPKe
import Derived.Test.YtoikhhnmbbbjjaaDoorPS2z
import Derived.Test.YtoikhhnmbbbjjaaDoorPDsa
import Derived.Test.YtoikhhnmbbbjjaaDoorPK4
import Derived.Test.YtoikhhnmbbbjjaaDoorPK0
namespace Go.Proofs.YtoikhhnmbbbjjaaDoor
set_option linter.unusedVariables false
set_option linter.unusedSimpArgs false
set_option maxRecDepth 100000
open Go.RowKit
structure ExtS (s s':TStore):Prop where
 nm:s'.names=s.names
 rc:s'.records=s.records
 gl:s'.globals.length=s.globals.length
 ob:∀(i:Nat) (o:TObject),s.objects[i]?=some o→∃o',s'.objects[i]?=some o'∧o'.kind=o.kind∧o.items.length≤o'.items.length
theorem objInB_ext {s s':TStore} (h:ExtS s s') {v:VVal} (hv:objInB s v=true):objInB s' v=true:=by
 unfold objInB at hv ⊢
 cases hq:s.objects[v.n.toNat]? with
 | none=>rw[hq]at hv;cases hv
 | some o =>
  rw[hq]at hv
  obtain⟨o',e,hk,hl⟩:=h.ob _ _ hq
  rw[e]
  simp only[Bool.and_eq_true,decide_eq_true_eq]at hv ⊢
  refine⟨hk.trans hv.1,?_⟩
  have h2:=hv.2
  split at h2
  ·
   rename_i hc
   rw[if_pos hc]
   simp only[decide_eq_true_eq]at h2 ⊢
   omega
  ·
   rename_i hc
   rw[if_neg hc]
theorem inB_ext {s s':TStore} (h:ExtS s s') {v:VVal} (hv:inB s v=true):inB s' v=true:=by
 unfold inB at hv ⊢
 rw[Bool.and_eq_true]at hv ⊢
 refine⟨hv.1,?_⟩
 have h2:=hv.2
 by_cases hk:kindI v.k≠0
 ·
  rw[if_pos hk]at h2 ⊢
  exact objInB_ext h h2
 ·
  rw[if_neg hk]at h2 ⊢
  rw[h.nm,h.rc,h.gl]
  exact h2
theorem dataB_ext {s s':TStore} (h:ExtS s s') {v:VVal} (hv:dataB s v=true):dataB s' v=true:=by
 unfold dataB at hv ⊢
 rw[Bool.and_eq_true]at hv ⊢
 exact⟨hv.1,inB_ext h hv.2⟩
theorem allB_ext {s s':TStore} (h:ExtS s s') {l:List TValue} (hv:allB s l=true):allB s' l=true :=
 List.all_eq_true.2 fun x hx=>dataB_ext h (List.all_eq_true.1 hv x hx)
theorem all2_imp {α β:Type} {f g:α→β→Bool} (hfg:∀a b,f a b=true→g a b=true):∀(l:List α) (r:List β),all2 f l r=true→all2 g l r=true
 | [],_,_=>by cases ‹List β› <;> rfl
 | _ :: _,[],_=>rfl
 | a :: r,b :: q,h=>by
  simp only[all2,Bool.and_eq_true]at h ⊢
  exact⟨hfg a b h.1,all2_imp hfg r q h.2⟩
theorem patB_ext {s s':TStore} (h:ExtS s s') {t:Int} {l:List TValue} (hv:patB s t l=true):patB s' t l=true:=by
 unfold patB at hv ⊢
 rw[Bool.and_eq_true]at hv ⊢
 refine⟨hv.1,all2_imp (fun k x hx=>?_) _ _ hv.2⟩
 unfold chkP at hx ⊢
 rw[Bool.and_eq_true]at hx ⊢
 exact⟨inB_ext h hx.1,hx.2⟩
def bodB (s:TStore) (o:TObject):Bool :=
  (if o.kind=1 then decide (o.tag=0)&&decide (o.keys.length=0)&&decide (o.items.length≤24)&&allB s o.items
   else if o.kind=2 then decide (o.tag=0)&&decide (o.keys.length=0)&&decide (o.items.length≤40)&&allB s o.items
   else if o.kind=3 then decide (o.tag=0)&&decide (o.keys.length≤40)&&decide (o.items.length=o.keys.length+1)&&allB s o.items&&allB s o.keys&&distB o.keys
   else if o.kind=4 then decide (o.tag=0)&&decide (o.keys.length≤40)&&decide (o.items.length=0)&&allB s o.keys&&distB o.keys
   else if o.kind=5 then decide (0≤o.tag)&&decide (o.tag<(s.records.length:Int))&&decide (o.keys.length=0)&&decide (o.items.length=(s.records.getD o.tag.toNat (.mk ByteArray.empty [] 0)).fields.length)&&allB s o.items
   else if o.kind=6 then decide (1≤o.tag)&&decide (o.keys.length=0)&&decide (o.items.length=3)&&decide ((vAt o.items 0).k=19)&&decide ((vAt o.items 1).k=19)&&decide ((vAt o.items 2).k=1)&&decide (0≤(vAt o.items 2).n)&&inB s (vAt o.items 0)&&inB s (vAt o.items 1)&&inB s (vAt o.items 2)
   else if o.kind=7 then decide (o.keys.length=0)&&patB s o.tag o.items
   else if o.kind=8 then decide (o.tag=0)&&decide (o.keys.length=0)&&decide (o.items.length=2)&&decide ((vAt o.items 0).k=5)&&inB s (vAt o.items 0)&&dataB s (vAt o.items 1)
   else if o.kind=9 then decide (o.tag=0)&&decide (o.keys.length=0)&&decide (o.items.length=2)&&decide ((vAt o.items 0).k=2)&&decide ((vAt o.items 1).k=1)&&inB s (vAt o.items 0)&&inB s (vAt o.items 1)&&decide (1≤(vAt o.items 1).n∧(vAt o.items 1).n≤((vAt o.items 0).t.size:Int)+1)
   else false)
theorem objB_eq (s:TStore) (o:TObject):objB s o=((if 2≤o.kind∧o.kind≤7 then decide (1≤o.serial∧o.serial≤s.made) else decide (o.serial=0))&&bodB s o):=rfl
theorem bodB_ext {s s':TStore} (h:ExtS s s') {o:TObject} (hv:bodB s o=true):bodB s' o=true:=by
 unfold bodB at hv ⊢
 by_cases h1:o.kind=1
 ·
  rw[if_pos h1]at hv ⊢
  simp only[Bool.and_eq_true]at hv ⊢
  exact⟨hv.1,allB_ext h hv.2⟩
 rw[if_neg h1]at hv ⊢
 by_cases h2:o.kind=2
 ·
  rw[if_pos h2]at hv ⊢
  simp only[Bool.and_eq_true]at hv ⊢
  exact⟨hv.1,allB_ext h hv.2⟩
 rw[if_neg h2]at hv ⊢
 by_cases h3:o.kind=3
 ·
  rw[if_pos h3]at hv ⊢
  simp only[Bool.and_eq_true]at hv ⊢
  exact⟨⟨⟨hv.1.1.1,allB_ext h hv.1.1.2⟩,allB_ext h hv.1.2⟩,hv.2⟩
 rw[if_neg h3]at hv ⊢
 by_cases h4:o.kind=4
 ·
  rw[if_pos h4]at hv ⊢
  simp only[Bool.and_eq_true]at hv ⊢
  exact⟨⟨hv.1.1,allB_ext h hv.1.2⟩,hv.2⟩
 rw[if_neg h4]at hv ⊢
 by_cases h5:o.kind=5
 ·
  rw[if_pos h5]at hv ⊢
  rw[h.rc]
  simp only[Bool.and_eq_true]at hv ⊢
  exact⟨hv.1,allB_ext h hv.2⟩
 rw[if_neg h5]at hv ⊢
 by_cases h6:o.kind=6
 ·
  rw[if_pos h6]at hv ⊢
  simp only[Bool.and_eq_true]at hv ⊢
  exact⟨⟨⟨hv.1.1.1,inB_ext h hv.1.1.2⟩,inB_ext h hv.1.2⟩,inB_ext h hv.2⟩
 rw[if_neg h6]at hv ⊢
 by_cases h7:o.kind=7
 ·
  rw[if_pos h7]at hv ⊢
  simp only[Bool.and_eq_true]at hv ⊢
  exact⟨hv.1,patB_ext h hv.2⟩
 rw[if_neg h7]at hv ⊢
 by_cases h8:o.kind=8
 ·
  rw[if_pos h8]at hv ⊢
  simp only[Bool.and_eq_true]at hv ⊢
  exact⟨⟨hv.1.1,inB_ext h hv.1.2⟩,dataB_ext h hv.2⟩
 rw[if_neg h8]at hv ⊢
 by_cases h9:o.kind=9
 ·
  rw[if_pos h9]at hv ⊢
  simp only[Bool.and_eq_true]at hv ⊢
  exact⟨⟨⟨hv.1.1.1,inB_ext h hv.1.1.2⟩,inB_ext h hv.1.2⟩,hv.2⟩
 rw[if_neg h9]at hv
 cases hv
theorem objB_ext {s s':TStore} (h:ExtS s s') (hm:s.made≤s'.made) {o:TObject} (hv:objB s o=true):objB s' o=true:=by
 rw[objB_eq,Bool.and_eq_true]at hv ⊢
 refine⟨?_,bodB_ext h hv.2⟩
 have h1:=hv.1
 by_cases hk:2≤o.kind∧o.kind≤7
 ·
  rw[if_pos hk]at h1 ⊢
  simp only[decide_eq_true_eq]at h1 ⊢
  omega
 ·
  rw[if_neg hk]at h1 ⊢
  exact h1
theorem actB_ext {s s':TStore} (h:ExtS s s') {a:TActive} (hv:actB s a=true):actB s' a=true:=by
 unfold actB at hv ⊢
 rw[h.nm]
 simp only[Bool.and_eq_true,decide_eq_true_eq]at hv ⊢
 cases hq:s.objects[a.frame.toNat]? with
 | none=>rw[hq]at hv;cases hv.2
 | some o =>
  rw[hq]at hv
  obtain⟨o',e,hk,-⟩:=h.ob _ _ hq
  rw[e]
  simp only[decide_eq_true_eq]at hv ⊢
  obtain⟨hlt,-⟩:=List.getElem?_eq_some_iff.1 e
  exact⟨⟨hv.1.1,hv.1.2.1,by omega⟩,hk.trans hv.2⟩
theorem serB_iff (l:List Int):serB l=true↔∀i,i<l.length→l.getD i 0=0∨∀y,y∈l.take i→y≠l.getD i 0:=by
 unfold serB
 rw[List.all_eq_true]
 constructor
 ·
  intro h i hi
  have h1:=h i (List.mem_range.2 hi)
  simp only[Bool.or_eq_true,decide_eq_true_eq,Bool.not_eq_true',List.any_eq_false]at h1
  exact h1
 ·
  intro h i hi
  simp only[Bool.or_eq_true,decide_eq_true_eq,Bool.not_eq_true',List.any_eq_false]
  exact h i (List.mem_range.1 hi)
theorem serB_snoc {l:List Int} {m:Int} (h:serB l=true) (hm:∀x,x∈l→x≠m):serB (l++[m])=true:=by
 rw[serB_iff]at h ⊢
 intro i hi
 rw[List.length_append,List.length_singleton]at hi
 by_cases hl:i<l.length
 ·
  rw[List.getD_eq_getElem?_getD,List.getElem?_append_left hl,←List.getD_eq_getElem?_getD,List.take_append_of_le_length (by omega)]
  exact h i hl
 ·
  have e:i=l.length:=by omega
  subst e
  rw[List.getD_eq_getElem?_getD,List.getElem?_append_right (Nat.le_refl _),Nat.sub_self,List.take_left' rfl]
  exact Or.inr hm
theorem validB_parts {s:TStore} (h:validB s=true):headB s=true∧s.records.all recB=true∧s.output.all (fun x=>decide (x.size≤120))=true∧s.actives.all (actB s)=true∧s.objects.all (objB s)=true∧serB (s.objects.map TObject.serial)=true∧allB s s.globals=true:=by
 unfold validB at h
 simp only[Bool.and_eq_true]at h
 obtain⟨⟨⟨⟨⟨⟨h1,h2⟩,h3⟩,h4⟩,h5⟩,h6⟩,h7⟩:=h
 exact⟨h1,h2,h3,h4,h5,h6,h7⟩
theorem validB_of {s:TStore} (h1:headB s=true) (h2:s.records.all recB=true) (h3:s.output.all (fun x=>decide (x.size≤120))=true) (h4:s.actives.all (actB s)=true) (h5:s.objects.all (objB s)=true) (h6:serB (s.objects.map TObject.serial)=true) (h7:allB s s.globals=true):validB s=true:=by
 unfold validB
 rw[h1,h2,h3,h4,h5,h6,h7]
 rfl
theorem ser_le {s:TStore} (h:validB s=true) {o:TObject} (ho:o∈s.objects):o.serial≤s.made:=by
 obtain⟨h1,-,-,-,h5,-,-⟩:=validB_parts h
 have h0:=List.all_eq_true.1 h5 o ho
 rw[objB_eq,Bool.and_eq_true]at h0
 have h2:=h0.1
 have hm:0≤s.made:=by
  unfold headB at h1
  simp only[Bool.and_eq_true,decide_eq_true_eq]at h1
  exact h1.1.1.1.2
 split at h2
 ·
  simp only[decide_eq_true_eq]at h2
  exact h2.2
 ·
  simp only[decide_eq_true_eq]at h2
  omega
theorem copy_law {s:TStore} {v:VVal} (h:copOk s (tvOf v)=true) (hm:s.made<1000000) (hc:isCop v.k=true) :
  ∃(o:TObject) (n:Nat),v.n=(n:Int)∧s.objects[n]?=some o∧(copT s (tvOf v)).objects=s.objects++[newObj o (s.made+1)]∧(copW s (tvOf v)).v=⟨v.k,s.objects.length,0,ByteArray.empty,0,0⟩∧n<s.objects.length∧o.serial≠s.made+1∧inV (copT s (tvOf v)) (copW s (tvOf v)).v=true∧validB (copT s (tvOf v))=true:=by
 obtain⟨k,n,i,t,lo,hi⟩:=v
 have hok:=h
 rw[copOk_eq,Bool.and_eq_true]at h
 obtain⟨hva,hda⟩:=h
 obtain⟨m,rfl,hlt,hkd⟩:=dataB_obj hda hc
 obtain⟨x0,x1,x2,x3,x4,x5,x6,x7,x8,x9,x10,x11,x12⟩:=s
 simp only[TStore.made]at hm
 have hlt':m<x2.length:=hlt
 have hm0:0≤x12:=by
  have h1:=(validB_parts hva).1
  unfold headB at h1
  simp only[Bool.and_eq_true,decide_eq_true_eq]at h1
  exact h1.1.1.1.2
 have hnm:nextM x12=x12+1:=by unfold nextM;rw[IntKind.wrap_i64];omega
 have hg:x2.getD (((m:Nat):Int)).toNat nilObj=x2[m]:=by rw[Int.toNat_natCast,List.getD_eq_getElem?_getD,List.getElem?_eq_getElem hlt'];rfl
 have e1:copT (TStore.mk x0 x1 x2 x3 x4 x5 x6 x7 x8 x9 x10 x11 x12) (tvOf ⟨k,m,i,t,lo,hi⟩)=TStore.mk x0 x1 (x2++[newObj x2[m] (x12+1)]) x3 x4 x5 x6 x7 x8 x9 x10 x11 (x12+1):=by
  unfold copT
  rw[if_pos hok,copS_eq]
  unfold copO copM
  rw[if_pos hc,if_pos hc,hnm,hg]
 have e2:(copW (TStore.mk x0 x1 x2 x3 x4 x5 x6 x7 x8 x9 x10 x11 x12) (tvOf ⟨k,m,i,t,lo,hi⟩)).v=⟨k,x2.length,0,ByteArray.empty,0,0⟩:=by
  unfold copW
  rw[if_pos hok,copV_eq]
  unfold copVV
  exact if_pos hc
 rw[e1,e2]
 have hkd':x2[m].kind+2=k:=hkd
 have hser:x2[m].serial≤x12:=ser_le hva (show x2[m]∈(TStore.mk x0 x1 x2 x3 x4 x5 x6 x7 x8 x9 x10 x11 x12).objects from List.getElem_mem hlt')
 have hX:ExtS (TStore.mk x0 x1 x2 x3 x4 x5 x6 x7 x8 x9 x10 x11 x12) (TStore.mk x0 x1 (x2++[newObj x2[m] (x12+1)]) x3 x4 x5 x6 x7 x8 x9 x10 x11 (x12+1)):=by
  refine⟨rfl,rfl,rfl,fun j o ho=>⟨o,?_,rfl,Nat.le_refl _⟩⟩
  have ho':x2[j]?=some o:=ho
  obtain⟨hj,-⟩:=List.getElem?_eq_some_iff.1 ho'
  show (x2++[newObj x2[m] (x12+1)])[j]?=some o
  rw[List.getElem?_append_left hj]
  exact ho'
 obtain⟨p1,p2,p3,p4,p5,p6,p7⟩:=validB_parts hva
 have hck:4≤k∧k≤7:=by
  unfold isCop at hc
  simpa only[Bool.and_eq_true,decide_eq_true_eq]using hc
 have hV:validB (TStore.mk x0 x1 (x2++[newObj x2[m] (x12+1)]) x3 x4 x5 x6 x7 x8 x9 x10 x11 (x12+1))=true:=by
  refine validB_of ?_ p2 p3 (List.all_eq_true.2 fun a ha=>actB_ext hX (List.all_eq_true.1 p4 a ha)) (List.all_eq_true.2 fun o ho=>?_) ?_ (allB_ext hX p7)
  ·
   unfold headB at p1 ⊢
   simp only[Bool.and_eq_true,decide_eq_true_eq]at p1 ⊢
   obtain⟨⟨⟨⟨⟨⟨⟨⟨⟨a1,a2⟩,a3⟩,a4⟩,a5⟩,a6⟩,a7⟩,a8⟩,a9⟩,a10⟩:=p1
   exact⟨⟨⟨⟨⟨⟨⟨⟨⟨a1,a2⟩,a3⟩,a4⟩,a5⟩,a6⟩,(show 0≤x12+1 by omega)⟩,a8⟩,a9⟩,a10⟩
  ·
   rcases List.mem_append.1 (show o∈x2++[newObj x2[m] (x12+1)]from ho)with q | q
   ·
    exact objB_ext hX (show x12≤x12+1 by omega) (List.all_eq_true.1 p5 o q)
   ·
    rw[List.mem_singleton.1 q]
    have h0:=List.all_eq_true.1 p5 x2[m] (List.getElem_mem hlt')
    rw[objB_eq,Bool.and_eq_true]at h0 ⊢
    refine⟨?_,bodB_ext hX h0.2⟩
    rw[if_pos (show 2≤(newObj x2[m] (x12+1)).kind∧(newObj x2[m] (x12+1)).kind≤7 by show 2≤x2[m].kind∧x2[m].kind≤7;omega)]
    exact decide_eq_true (show 1≤x12+1∧x12+1≤x12+1 by omega)
  ·
   show serB ((x2++[newObj x2[m] (x12+1)]).map TObject.serial)=true
   rw[List.map_append,List.map_cons,List.map_nil]
   refine serB_snoc p6 fun x hx=>?_
   obtain⟨o,ho,rfl⟩:=List.mem_map.1 hx
   have h9:o.serial≤x12:=ser_le hva (show o∈(TStore.mk x0 x1 x2 x3 x4 x5 x6 x7 x8 x9 x10 x11 x12).objects from ho)
   show o.serial≠x12+1
   omega
 refine⟨x2[m],m,rfl,List.getElem?_eq_getElem hlt',rfl,rfl,hlt',by show x2[m].serial≠x12+1;omega,?_,hV⟩
 unfold inV
 rw[hV,Bool.true_and]
 unfold inB
 rw[Bool.and_eq_true]
 have hk2:kindI k=k - 2:=by
  exact rk217
 refine⟨?_,?_⟩
 ·
  unfold wellB
  simp only
  rw[if_neg (by omega),if_neg (by omega),if_neg (by omega),if_neg (by omega),if_neg (by omega),if_neg (by omega),if_neg (by omega),if_pos (by omega)]
  have h0:ByteArray.empty.toList=[]:=by rw[ByteArray.toList_eq];rfl
  simp[h0]
 ·
  rw[if_pos (by show kindI k≠0;omega)]
  unfold objInB
  have e9:(TStore.mk x0 x1 (x2++[newObj x2[m] (x12+1)]) x3 x4 x5 x6 x7 x8 x9 x10 x11 (x12+1)).objects[((x2.length:Nat):Int).toNat]?=some (newObj x2[m] (x12+1)):=by
   rw[Int.toNat_natCast]
   show (x2++[newObj x2[m] (x12+1)])[x2.length]?=_
   rw[List.getElem?_append_right (Nat.le_refl _),Nat.sub_self]
   rfl
  simp only[e9]
  rw[Bool.and_eq_true]
  refine⟨decide_eq_true ?_,?_⟩
  ·
   show x2[m].kind=kindI k
   omega
  ·
   rw[if_neg (by show ¬(k=13∨k=16);omega)]
theorem copy_no {s:TStore} {v:VVal} (h:copOk s (tvOf v)=true) (hc:isCop v.k=false):copT s (tvOf v)=s∧(copW s (tvOf v)).v=v:=by
 obtain⟨x0,x1,x2,x3,x4,x5,x6,x7,x8,x9,x10,x11,x12⟩:=s
 obtain⟨k,n,i,t,lo,hi⟩:=v
 have hc':¬isCop k=true:=by rw[show isCop k=false from hc];exact Bool.false_ne_true
 refine⟨?_,?_⟩
 ·
  unfold copT
  rw[if_pos h,copS_eq]
  unfold copO copM
  rw[if_neg hc',if_neg hc']
 ·
  unfold copW
  rw[if_pos h,copV_eq]
  unfold copVV
  exact if_neg hc'
end Go.Proofs.YtoikhhnmbbbjjaaDoor
namespace Go.Proofs.YtoikhhnmbbbjjaaDoor
set_option linter.unusedVariables false
set_option linter.unusedSimpArgs false
set_option maxRecDepth 100000
open Go.RowKit
--%quiet
theorem eqB_refl (v:VVal):VVal.eqB v v=true:=by
 unfold VVal.eqB
 simp
theorem run_neV (k n i:Int) (t:ByteArray) (lo hi k' n' i':Int) (t':ByteArray) (lo' hi':Int) (w:World) :
  (binOp .neq 34 (.agg #[.int .i64 k,.int .i64 n,.int .i64 i,.string t,.int .i64 lo,.int .i64 hi]) (.agg #[.int .i64 k',.int .i64 n',.int .i64 i',.string t',.int .i64 lo',.int .i64 hi'])).run Tryd.prog w=.ok (.bool (!(VVal.eqB ⟨k,n,i,t,lo,hi⟩ ⟨k',n',i',t',lo',hi'⟩))) w:=by
 have h:=run_eqV k n i t lo hi k' n' i' t' lo' hi' w
 rw[run_eql_struct]at h
 rw[run_neq_struct]
 generalize Sem.run Tryd.prog (Op.equalIn 10000 _ _ _) w=r at h ⊢
 cases r <;> simp_all [Result.andThen]
set_option maxHeartbeats 1000000 in
theorem same_any (l:List TValue) (S S':Nat→Prop) (w:World) (A B:Option Addr) (c d:Nat) (hA:Row w S 6 A c (l.map TValue.D)) (hB:Row w S' 6 B d (l.map TValue.D)) :
  Calls Tryd.prog 10 #[.slice A l.length c,.slice B l.length d] w fun e w'=>e=.returned (.bool true)∧Bel w w':=by
 have HA:=hide hA
 have HB:=hide hB
 have hlen:=hA.1
 have hcm:=hA.2.1
 have hlen2:=hB.1
 have hcm2:=hB.2.1
 simp only[List.length_map]at hlen hlen2
 unfold maxLen at hcm hcm2
 clear hA hB
 go_enter Tryd.func10,Tryd.ntmps10
 go_wp2_with (fail)
 repeat (any_goals (go_quiet (fail);(try go_wp2_with (fail))))
 go_loopw [5] (fun v wr=>∃m:Nat,v=.int .i64 m∧m≤l.length∧Bel w wr) (fun v _=>l.length - (intOf v).toNat)
 case atStart=>exact⟨0,rfl,by omega,Bel.refl _⟩
 case round =>
  obtain⟨m,rfl,m1,hbw⟩:=hrel
  by_cases h1:m<l.length
  ·
   have hd:decide ((m:Int)<(l.length:Int))=true:=by simp[h1]
   (obtain⟨b1,o1,x1_0,x1_1,x1_2,x1_3,x1_4,x1_5,hA1,hS1,hl1,hx1,hv1,g1_0,g1_1,g1_2,g1_3,g1_4,g1_5,c1_0,c1_1,c1_2,c1_3,c1_4,c1_5⟩:=TValue.at HA.out m h1;subst hA1;have HV1:=hide (Dat.HoldVals.bel hbw hv1);have hh1:=hbw.box b1 hl1;have hw1:=Nat.lt_of_lt_of_le hl1 (Bel.size hbw);replace c1_0:=(hh1 _).trans c1_0;replace c1_1:=(hh1 _).trans c1_1;replace c1_2:=(hh1 _).trans c1_2;replace c1_3:=(hh1 _).trans c1_3;replace c1_4:=(hh1 _).trans c1_4;replace c1_5:=(hh1 _).trans c1_5;have HX1:=hide hx1;clear hh1 hv1 hx1 hS1)
   (obtain⟨b2,o2,x2_0,x2_1,x2_2,x2_3,x2_4,x2_5,hA2,hS2,hl2,hx2,hv2,g2_0,g2_1,g2_2,g2_3,g2_4,g2_5,c2_0,c2_1,c2_2,c2_3,c2_4,c2_5⟩:=TValue.at HB.out m h1;subst hA2;have HV2:=hide (Dat.HoldVals.bel hbw hv2);have hh2:=hbw.box b2 hl2;have hw2:=Nat.lt_of_lt_of_le hl2 (Bel.size hbw);replace c2_0:=(hh2 _).trans c2_0;replace c2_1:=(hh2 _).trans c2_1;replace c2_2:=(hh2 _).trans c2_2;replace c2_3:=(hh2 _).trans c2_3;replace c2_4:=(hh2 _).trans c2_4;replace c2_5:=(hh2 _).trans c2_5;have HX2:=hide hx2;clear hh2 hv2 hx2 hS2)
   obtain⟨rfl,rfl,rfl,rfl,rfl,rfl⟩:=TValue.mk.inj (HX1.out.symm.trans HX2.out)
   have hrun:=fun w=>(run_neV x1_0 x1_1 x1_2 x1_3 x1_4 x1_5 x1_0 x1_1 x1_2 x1_3 x1_4 x1_5 w).trans (by rw[eqB_refl])
   go_wp2_with (fail)
   repeat (any_goals (go_quiet (fail);(try go_wp2_with (fail))))
   go_roundw
   case rel=>exact⟨m+1,by go_num,by omega,bl⟩
   case measure=>simp[intOf];omega
  ·
   have hd:decide ((m:Int)<(l.length:Int))=false:=by simp[h1]
   go_wp2_with (fail)
   repeat (any_goals (go_quiet (fail);(try go_wp2_with (fail))))
   all_goals
    go_returns
    exact⟨rfl,bl⟩
end Go.Proofs.YtoikhhnmbbbjjaaDoor
namespace Go.Proofs.YtoikhhnmbbbjjaaDoor
set_option linter.unusedVariables false
set_option linter.unusedSimpArgs false
set_option maxRecDepth 100000
open Go.RowKit
theorem lawBig_any (A:Option Addr) (n cap:Nat) (w:World) :
  Calls Tryd.prog 4 #[.slice A n cap] w fun e w'=>e=.returned (.bool (decide ((1048576:Int)<(n:Int))))∧w=w':=by
 go_enter Tryd.func4,Tryd.ntmps4
 go_wp2
 all_goals
  go_returns
  exact⟨rfl,rfl⟩
structure CsS (w wx:World) (b bv:Nat) (u0 u1 u2 u3 u4 u5 u6 u7 u8 u9 u10 u11 u12:Value) (ds:List Dat) (k n i:Int) (t:ByteArray) (lo hi:Int):Prop where
 bel:Bel w wx
 box:SB wx b u0 u1 u2 u3 u4 u5 u6 u7 u8 u9 u10 u11 u12
 vb:V6 wx bv k n i t lo hi
 val:Dat.HoldVals wx (fun _=>True) ds [u0,u1,u2,u3,u4,u5,u6,u7,u8,u9,u10,u11,u12]
theorem CsS.on {w wx wy:World} {b bv:Nat} {u0 u1 u2 u3 u4 u5 u6 u7 u8 u9 u10 u11 u12:Value} {ds:List Dat} {k n i:Int} {t:ByteArray} {lo hi:Int} (h:CsS w wx b bv u0 u1 u2 u3 u4 u5 u6 u7 u8 u9 u10 u11 u12 ds k n i t lo hi) (q:Bel wx wy):CsS w wy b bv u0 u1 u2 u3 u4 u5 u6 u7 u8 u9 u10 u11 u12 ds k n i t lo hi:=⟨h.bel.trans q,h.box.on q,h.vb.on q,Dat.HoldVals.bel q h.val⟩
theorem OB.there {w:World} {b:Nat} {v0 v1 v2 v3 v4:Value} (h:OB w b v0 v1 v2 v3 v4):w.there b 0 5:=by
 obtain⟨l,f,c0,c1,c2,c3,c4⟩:=h
 intro j hj
 rcases (show j=0∨j=1∨j=2∨j=3∨j=4 by omega)with rfl | rfl | rfl | rfl | rfl
 ·
  exact⟨by rw[show 0+0=0 from rfl,c0];rfl,f _⟩
 ·
  exact⟨by rw[show 0+1=1 from rfl,c1];rfl,f _⟩
 ·
  exact⟨by rw[show 0+2=2 from rfl,c2];rfl,f _⟩
 ·
  exact⟨by rw[show 0+3=3 from rfl,c3];rfl,f _⟩
 ·
  exact⟨by rw[show 0+4=4 from rfl,c4];rfl,f _⟩
theorem OB.fill {w:World} {b:Nat} {v0 v1 v2 v3 v4:Value} (h:OB w b v0 v1 v2 v3 v4) (u0 u1 u2 u3 u4:Value):OB (w.setCells b 0 [u0,u1,u2,u3,u4]) b u0 u1 u2 u3 u4:=((((h.put0 u0).put1 u1).put2 u2).put3 u3).put4 u4
def BxO (N:Nat) (w:World) (p:Value) (v0 v1 v2 v3 v4:Value):Prop:=∃g:Nat,p=.pointer (some ⟨g,0,none⟩)∧N≤g∧OB w g v0 v1 v2 v3 v4
theorem BxO.on {N:Nat} {w w':World} {p v0 v1 v2 v3 v4:Value} (h:BxO N w p v0 v1 v2 v3 v4) (hb:Bel w w'):BxO N w' p v0 v1 v2 v3 v4:=h.imp fun g ⟨e,hg,ho⟩=>⟨e,hg,ho.on hb⟩
theorem BxO.far {N:Nat} {w:World} {p v0 v1 v2 v3 v4:Value} {b:Nat} (h:BxO N w p v0 v1 v2 v3 v4) (hn:p≠.pointer (some ⟨b,0,none⟩)) (us:List Value):BxO N (w.setCells b 0 us) p v0 v1 v2 v3 v4 :=
 h.imp fun g ⟨e,hg,ho⟩=>⟨e,hg,ho.block (Nat.le_of_eq (setCells_but b us 0 w).size.symm) ((setCells_but b us 0 w).block g (fun q=>hn (by rw[e,q])))⟩
theorem bel_fill {N b:Nat} {w wa:World} (h:Bel w wa) (hN:w.heap.size≤N) (hb:N≤b) (us:List Value):Bel w (wa.setCells b 0 us):=by
 have hB:=setCells_but b us 0 wa
 exact⟨hB.os.trans h.os,hB.tape.trans h.tape,hB.output.trans h.output,by have:=h.size;have:=hB.size;omega,fun d hd=>(hB.block d (by omega)).trans (Below.block h d hd)⟩
set_option maxRecDepth 8000 in
set_option maxHeartbeats 4000000 in
theorem FnCopies_walk (A:Option Addr) (n cap:Nat) (w:World) (hB:∀c,w.heap.size≤c→n≤1048576→Bts w c A n) (htab:Sp w) :
  Calls Tryd.prog 3 #[.slice A n cap] w fun e w'=>e=.returned (.bool true)∧Bel w w':=by
 have HB:=hide hB
 have HTB:=hide htab
 clear hB htab
 by_cases hn:n≤1048576
 case neg =>
  have hd:=hide (show decide ((1048576:Int)<(n:Int))=true by simp;omega)
  go_enter Tryd.func3,Tryd.ntmps3
  go_wp2_with (go_at_call 4;refine (lawBig_any A n cap _).mono ?_;rintro e w1 ⟨rfl,rfl⟩;rw[hd.out])
  all_goals
   go_returns
   exact⟨rfl,bl⟩
 have hd:=hide (show decide ((1048576:Int)<(n:Int))=false by simp;omega)
 go_enter Tryd.func3,Tryd.ntmps3
 go_upto_region 4 with (first
  | (go_at_call 4;refine (lawBig_any A n cap _).mono ?_;rintro e w1 ⟨rfl,rfl⟩;rw[hd.out])
  | (go_at_call 5;refine (drawCopyValue_any A n cap _ hn (fun c h=>HB.out c h hn)).mono ?_;rintro e w1 ⟨⟨x0,x1,x2,x3,x4,x5,x6,x7,x8,x9,x10,x11,x12⟩,vs,⟨k,m,i,t,lo,hi⟩,he,hv,hl25,-,hmd,hx,hb1⟩;replace he:e=.returned (.tuple #[.agg vs.toArray,.agg #[.int .i64 k,.int .i64 m,.int .i64 i,.string t,.int .i64 lo,.int .i64 hi]]):=he;have HV:=hide hv;have HX:=hide hx;have Hb1:=hide hb1;have HMD:=hide hmd;replace hl25:x2.length≤25:=hl25;obtain⟨A0,c0,A1,c1,A2,c2,A3,c3,A6,c6,A7,c7,A8,c8,rfl,-⟩:=TStore.vals hv;clear hv hx hb1 hmd;subst he))
 refine wp_named2 fun w2 hw2=>?_
 have hb2:Bel w1 w2:=by rw[←hw2];exact bl
 have L:=hide (show CsS w w2 w1.heap.size (w1.heap.size+1) (.slice A0 x0.length c0) (.slice A1 x1.length c1) (.slice A2 x2.length c2) (.slice A3 x3.length c3) (.string x4) (.int .i64 x5) (.slice A6 x6.length c6) (.slice A7 x7.length c7) (.slice A8 x8.length c8) (.bool x9) (.int .i64 x10) (.int .i64 x11) (.int .i64 x12) (TStore.mk x0 x1 x2 x3 x4 x5 x6 x7 x8 x9 x10 x11 x12).D k m i t lo hi from⟨Hb1.out.trans hb2,by rw[←hw2];exact SB.on (SB.new w1 30) (Bel.alloc (Bel.refl _) _),by rw[←hw2];have h:=V6.new (w1.alloc (.cells #[.slice A0 x0.length c0,.slice A1 x1.length c1,.slice A2 x2.length c2,.slice A3 x3.length c3,.string x4,.int .i64 x5,.slice A6 x6.length c6,.slice A7 x7.length c7,.slice A8 x8.length c8,.bool x9,.int .i64 x10,.int .i64 x11,.int .i64 x12] 30)) 34 (k:=k) (n:=m) (i:=i) (t:=t) (lo:=lo) (hi:=hi);rw[World.size_alloc]at h;exact h,Dat.HoldVals.bel hb2 (HV.out.wide (fun _ _=>trivial))⟩)
 clear hw2 hb2 HV Hb1
 obtain⟨b,hb⟩:∃x,w1.heap.size=x:=⟨_,rfl⟩
 obtain⟨bv,hbv⟩:∃x,w1.heap.size+1=x:=⟨_,rfl⟩
 rw[hbv,hb]at L
 simp only[hbv]
 simp only[hb]
 clear hb hbv
 obtain⟨hlb,hfb,kb_0,kb_1,kb_2,kb_3,kb_4,kb_5,kb_6,kb_7,kb_8,kb_9,kb_10,kb_11,kb_12⟩:=L.out.box
 obtain⟨vl,vf,vb_0,vb_1,vb_2,vb_3,vb_4,vb_5⟩:=L.out.vb
 have hln:Dat.lnL (TStore.mk x0 x1 x2 x3 x4 x5 x6 x7 x8 x9 x10 x11 x12).D≤1048576:=by have:=HMD.out.2.2;omega
 have HLN:=hide hln
 clear hln
 obtain⟨T,hT⟩:∃T,copT (TStore.mk x0 x1 x2 x3 x4 x5 x6 x7 x8 x9 x10 x11 x12) (tvOf ⟨k,m,i,t,lo,hi⟩)=T:=⟨_,rfl⟩
 obtain⟨⟨rk,rn,ri,rt,rl,rh⟩,hR⟩:∃r,(copW (TStore.mk x0 x1 x2 x3 x4 x5 x6 x7 x8 x9 x10 x11 x12) (tvOf ⟨k,m,i,t,lo,hi⟩)).v=r:=⟨_,rfl⟩
 obtain⟨ok,hok⟩:∃o,copOk (TStore.mk x0 x1 x2 x3 x4 x5 x6 x7 x8 x9 x10 x11 x12) (tvOf ⟨k,m,i,t,lo,hi⟩)=o:=⟨_,rfl⟩
 obtain⟨y0,y1,y2,y3,y4,y5,y6,y7,y8,y9,y10,y11,y12⟩:=T
 have HT:=hide hT
 have HR:=hide hR
 have HO:=hide hok
 clear hT hR hok
 have hoo:(ok != ok)=false:=by simp
 go_upto_region 5 with (go_at_call 6;refine (implCpy_any (TStore.mk x0 x1 x2 x3 x4 x5 x6 x7 x8 x9 x10 x11 x12) ⟨k,m,i,t,lo,hi⟩ (fun _=>True) _ [.slice A0 x0.length c0,.slice A1 x1.length c1,.slice A2 x2.length c2,.slice A3 x3.length c3,.string x4,.int .i64 x5,.slice A6 x6.length c6,.slice A7 x7.length c7,.slice A8 x8.length c8,.bool x9,.int .i64 x10,.int .i64 x11,.int .i64 x12] (HTB.out.on (Bel.trans L.out.bel bl)) (Dat.HoldVals.bel bl L.out.val) HX.out HLN.out).mono ?_;rintro e w3 ⟨us,L3,he,hO3,-,-,hb3⟩;rw[HT.out]at hO3;rw[HR.out,HO.out]at he;have HV3:=hide (Dat.OwnVals.vals (S:=fun _=>True) (fun _ _=>trivial) hO3);obtain⟨B0,d0,B1,d1,B2,d2,B3,d3,B6,d6,B7,d7,B8,d8,rfl,-⟩:=TStore.vals HV3.out;subst he;have L3:=hide (L.out.on hb3);simp only[VVal.val];clear hb3 hO3)
 refine wp_named2 fun w4 hw4=>?_
 have hb4:Bel w3 w4:=by rw[←hw4];exact bl
 have L4:=hide (L3.out.on hb4)
 have M4:=hide (show CsS w w4 w3.heap.size (w3.heap.size+1) (.slice B0 y0.length d0) (.slice B1 y1.length d1) (.slice B2 y2.length d2) (.slice B3 y3.length d3) (.string y4) (.int .i64 y5) (.slice B6 y6.length d6) (.slice B7 y7.length d7) (.slice B8 y8.length d8) (.bool y9) (.int .i64 y10) (.int .i64 y11) (.int .i64 y12) (TStore.mk y0 y1 y2 y3 y4 y5 y6 y7 y8 y9 y10 y11 y12).D rk rn ri rt rl rh from⟨L4.out.bel,by rw[←hw4];exact SB.on (SB.new w3 30) (Bel.alloc (Bel.refl _) _),by rw[←hw4];have h:=V6.new (w3.alloc (.cells #[.slice B0 y0.length d0,.slice B1 y1.length d1,.slice B2 y2.length d2,.slice B3 y3.length d3,.string y4,.int .i64 y5,.slice B6 y6.length d6,.slice B7 y7.length d7,.slice B8 y8.length d8,.bool y9,.int .i64 y10,.int .i64 y11,.int .i64 y12] 30)) 34 (k:=rk) (n:=rn) (i:=ri) (t:=rt) (lo:=rl) (hi:=rh);rw[World.size_alloc]at h;exact h,Dat.HoldVals.bel hb4 HV3.out⟩)
 clear hw4 hb4 HV3 L L3 hlb hfb kb_0 kb_1 kb_2 kb_3 kb_4 kb_5 kb_6 kb_7 kb_8 kb_9 kb_10 kb_11 kb_12 vl vf vb_0 vb_1 vb_2 vb_3 vb_4 vb_5
 obtain⟨bo,hbo⟩:∃x,w3.heap.size=x:=⟨_,rfl⟩
 obtain⟨bx,hbx⟩:∃x,w3.heap.size+1=x:=⟨_,rfl⟩
 rw[hbx,hbo]at M4
 simp only[hbx]
 simp only[hbo]
 clear hbx hbo w3
 obtain⟨hlb,hfb,kb_0,kb_1,kb_2,kb_3,kb_4,kb_5,kb_6,kb_7,kb_8,kb_9,kb_10,kb_11,kb_12⟩:=L4.out.box
 obtain⟨vl,vf,vb_0,vb_1,vb_2,vb_3,vb_4,vb_5⟩:=L4.out.vb
 go_upto_region 6 with (go_at_call 7;refine (specCpy_any (TStore.mk x0 x1 x2 x3 x4 x5 x6 x7 x8 x9 x10 x11 x12) ⟨k,m,i,t,lo,hi⟩ (fun _=>True) _ [.slice A0 x0.length c0,.slice A1 x1.length c1,.slice A2 x2.length c2,.slice A3 x3.length c3,.string x4,.int .i64 x5,.slice A6 x6.length c6,.slice A7 x7.length c7,.slice A8 x8.length c8,.bool x9,.int .i64 x10,.int .i64 x11,.int .i64 x12] (HTB.out.on (Bel.trans L4.out.bel bl)) (Dat.HoldVals.bel bl L4.out.val) HX.out HLN.out).mono ?_;rintro e w5 ⟨us5,L5,he,hO5,-,-,hb5⟩;rw[HT.out]at hO5;rw[HR.out,HO.out]at he;have HV5:=Dat.OwnVals.vals (S:=fun _=>True) (fun _ _=>trivial) hO5;obtain⟨E0,e0,E1,e1,E2,e2,E3,e3,E6,e6,E7,e7,E8,e8,rfl,-⟩:=TStore.vals HV5;subst he;have L5:=hide (L4.out.on hb5);have M5:=hide (M4.out.on hb5);simp only[VVal.val];clear hb5 hO5 HV5)
 refine wp_named2 fun wr hwr=>?_
 have hb6:Bel w5 wr:=by rw[←hwr];exact bl
 have L:=hide (L5.out.on hb6)
 have M:=hide (M5.out.on hb6)
 clear hwr hb6 L4 M4 L5 M5 hlb hfb kb_0 kb_1 kb_2 kb_3 kb_4 kb_5 kb_6 kb_7 kb_8 kb_9 kb_10 kb_11 kb_12 vl vf vb_0 vb_1 vb_2 vb_3 vb_4 vb_5
 obtain⟨hlb,hfb,kb_0,kb_1,kb_2,kb_3,kb_4,kb_5,kb_6,kb_7,kb_8,kb_9,kb_10,kb_11,kb_12⟩:=L.out.box
 obtain⟨vl,vf,vb_0,vb_1,vb_2,vb_3,vb_4,vb_5⟩:=L.out.vb
 obtain⟨hlo,hfo,ko_0,ko_1,ko_2,ko_3,ko_4,ko_5,ko_6,ko_7,ko_8,ko_9,ko_10,ko_11,ko_12⟩:=M.out.box
 obtain⟨ul,uf,vo_0,vo_1,vo_2,vo_3,vo_4,vo_5⟩:=M.out.vb
 cases ok
 ·
  go_wp2_with (fail)
  all_goals
   go_returns
   exact⟨rfl,L.out.bel.trans bl⟩
 by_cases hcp:isCop k=true
 case neg =>
  have hcf:isCop k=false:=by cases hq:isCop k with | false=>rfl | true=>exact absurd hq hcp
  obtain⟨e1,e2⟩:=copy_no HO.out hcf
  have eT:=HT.out.symm.trans e1
  have eR:=HR.out.symm.trans e2
  obtain⟨rfl,rfl,rfl,rfl,rfl,rfl⟩:=VVal.mk.inj eR
  injection eT with q0 q1 q2 q3 q4 q5 q6 q7 q8 q9 q10 q11 q12
  subst q2
  have hrun:=fun w=>(run_eqV rk rn ri rt rl rh rk rn ri rt rl rh w).trans (by rw[VVal.eqB_self])
  have hk:rk<4∨7<rk:=by
   unfold isCop at hcf
   simp at hcf
   omega
  rcases hk with hk | hk
  ·
   have d1:decide (rk<4)=true:=decide_eq_true hk
   go_wp2_with (fail)
   all_goals
    go_returns
    exact⟨by first | rfl | simp,L.out.bel.trans bl⟩
  ·
   have d1:decide (rk<4)=false:=decide_eq_false (by omega)
   have d2:decide (7<rk)=true:=decide_eq_true hk
   go_wp2_with (fail)
   all_goals
    go_returns
    exact⟨by first | rfl | simp,L.out.bel.trans bl⟩
 obtain⟨o,nn,hnn,hoat,hobs,hrv,hlt,hser,hin,hval⟩:=copy_law HO.out (show x12<1000000 by have:=HMD.out.2.1;have h2:x12≤25:=this;omega) hcp
 rw[HT.out]at hobs hin hval
 rw[HR.out]at hrv hin
 replace hrv:(⟨rk,rn,ri,rt,rl,rh⟩:VVal)=⟨k,x2.length,0,ByteArray.empty,0,0⟩:=hrv
 obtain⟨rfl,rfl,rfl,rfl,rfl,rfl⟩:=VVal.mk.inj hrv
 replace hnn:m=(nn:Int):=hnn
 subst hnn
 replace hobs:y2=x2++[newObj o (x12+1)]:=hobs
 replace hlt:nn<x2.length:=hlt
 replace hoat:x2[nn]?=some o:=hoat
 replace hser:o.serial≠x12+1:=hser
 have HIN:=hide hin
 have HVA:=hide hval
 have hk:4≤rk∧rk≤7:=by
  unfold isCop at hcp
  simpa using hcp
 have dc1:decide (rk<4)=false:=decide_eq_false (by omega)
 have dc2:decide (7<rk)=false:=decide_eq_false (by omega)
 clear hin hval hrv
 have HXR:=hide (show VVal.Ok ⟨rk,x2.length,0,ByteArray.empty,0,0⟩from⟨HX.out.k,inI_len (by omega),inI_len (n:=0) (by omega),Nat.zero_le _,inI_len (n:=0) (by omega),inI_len (n:=0) (by omega)⟩)
 have hly:y2.length=x2.length+1:=by rw[hobs];simp
 have hm1:nn<y2.length:=by omega
 have hm2:x2.length<y2.length:=by omega
 have ey1:y2[nn]=o:=by
  have h:y2[nn]?=some o:=by rw[hobs,List.getElem?_append_left hlt];exact hoat
  rw[List.getElem?_eq_getElem hm1]at h
  exact Option.some.inj h
 have ey2:y2[x2.length]=newObj o (x12+1):=by
  have h:y2[x2.length]?=some (newObj o (x12+1)):=by rw[hobs,List.getElem?_append_right (Nat.le_refl _),Nat.sub_self];rfl
  rw[List.getElem?_eq_getElem hm2]at h
  exact Option.some.inj h
 clear hobs hoat hly
 go_upto_region 14 with (first
  | (go_at_call 8;refine (specValueIn_any (TStore.mk y0 y1 y2 y3 y4 y5 y6 y7 y8 y9 y10 y11 y12) ⟨rk,x2.length,0,ByteArray.empty,0,0⟩ (fun _=>True) _ [.slice B0 y0.length d0,.slice B1 y1.length d1,.slice B2 y2.length d2,.slice B3 y3.length d3,.string y4,.int .i64 y5,.slice B6 y6.length d6,.slice B7 y7.length d7,.slice B8 y8.length d8,.bool y9,.int .i64 y10,.int .i64 y11,.int .i64 y12] (Dat.HoldVals.bel bl M.out.val) HXR.out).mono ?_;rintro e w7 ⟨rfl,hb7⟩;rw[HIN.out];have k7:Bel wr w7:=Bel.trans bl hb7;obtain⟨hl7,hf7,k7_0,k7_1,k7_2,k7_3,k7_4,k7_5,k7_6,k7_7,k7_8,k7_9,k7_10,k7_11,k7_12⟩:=M.out.box.on k7;clear hb7)
  | (go_at_call 9;refine (implValid_any (TStore.mk y0 y1 y2 y3 y4 y5 y6 y7 y8 y9 y10 y11 y12) (fun _=>True) _ [.slice B0 y0.length d0,.slice B1 y1.length d1,.slice B2 y2.length d2,.slice B3 y3.length d3,.string y4,.int .i64 y5,.slice B6 y6.length d6,.slice B7 y7.length d7,.slice B8 y8.length d8,.bool y9,.int .i64 y10,.int .i64 y11,.int .i64 y12] (HTB.out.on (Bel.trans L.out.bel (Bel.trans k7 bl))) (Dat.HoldVals.bel (Bel.trans k7 bl) M.out.val)).mono ?_;rintro e w8 ⟨rfl,hb8⟩;rw[HVA.out];have k8:Bel wr w8:=Bel.trans k7 (Bel.trans bl hb8);clear hb8))
 refine wp_named2 fun w9 hw9=>?_
 have k9:Bel wr w9:=by rw[←hw9];exact Bel.trans k8 bl
 have L9:=hide (L.out.on k9)
 have M9:=hide (M.out.on k9)
 clear hw9 k7 k8 k9 L M hlb hfb kb_0 kb_1 kb_2 kb_3 kb_4 kb_5 kb_6 kb_7 kb_8 kb_9 kb_10 kb_11 kb_12 vl vf vb_0 vb_1 vb_2 vb_3 vb_4 vb_5 hlo hfo ko_0 ko_1 ko_2 ko_3 ko_4 ko_5 ko_6 ko_7 ko_8 ko_9 ko_10 ko_11 ko_12 ul uf vo_0 vo_1 vo_2 vo_3 vo_4 vo_5 hl7 hf7 k7_0 k7_1 k7_2 k7_3 k7_4 k7_5 k7_6 k7_7 k7_8 k7_9 k7_10 k7_11 k7_12
 clear wr w7 w8
 obtain⟨wr,hwr⟩:∃x,w9=x:=⟨_,rfl⟩
 rw[hwr]at L9 M9 ⊢
 have L:=L9
 have M:=M9
 clear L9 M9 hwr w9
 obtain⟨F0,e0,F1,e1,F2,e2,F3,e3,F6,e6,F7,e7,F8,e8,hvs,g0,g1,g2,g3,g4,g5,g6,g7,g8,-,g10,g11,g12⟩:=TStore.vals M.out.val
 have hvs2:Value.slice B2 y2.length d2=.slice F2 y2.length e2:=by injection hvs with h0 h;injection h with h1 h;injection h with h2 h
 injection hvs2 with hB2 _ hd2
 rw[←hB2,←hd2]at g2
 have hlc2:=g2.1
 have hcm2:=g2.2.1
 rw[List.length_map]at hlc2
 unfold maxLen at hcm2
 have HR2:=hide g2
 clear g0 g1 g2 g3 g4 g5 g6 g7 g8 g10 g11 g12 hvs hB2 hd2
 have hbw:Bel wr wr:=Bel.refl wr
 (obtain⟨b1,o1,x1_0,x1_1,x1_2,x1_3,x1_4,A1_3,C1_3,A1_4,C1_4,hA1,hS1,hl1,hx1,hv1,g1_0,g1_1,g1_2,g1_3,g1_4,c1_0,c1_1,c1_2,c1_3,c1_4⟩:=TObject.at HR2.out nn hm1;subst hA1;have HV1:=hide (Dat.HoldVals.bel hbw hv1);have hh1:=hbw.box b1 hl1;have hw1:=Nat.lt_of_lt_of_le hl1 (Bel.size hbw);replace c1_0:=(hh1 _).trans c1_0;replace c1_1:=(hh1 _).trans c1_1;replace c1_2:=(hh1 _).trans c1_2;replace c1_3:=(hh1 _).trans c1_3;replace c1_4:=(hh1 _).trans c1_4;have HX1:=hide hx1;have GR1_3:=hide g1_3;have GR1_4:=hide g1_4;clear hh1 hv1 hx1 hS1 g1_3 g1_4)
 (obtain⟨b2,o2,x2_0,x2_1,x2_2,x2_3,x2_4,A2_3,C2_3,A2_4,C2_4,hA2,hS2,hl2,hx2,hv2,g2_0,g2_1,g2_2,g2_3,g2_4,c2_0,c2_1,c2_2,c2_3,c2_4⟩:=TObject.at HR2.out x2.length hm2;injection Option.some.inj hA2 with qb2 qo2 _;subst qb2 qo2;have HV2:=hide (Dat.HoldVals.bel hbw hv2);have hh2:=hbw.box b1 hl2;have hw2:=Nat.lt_of_lt_of_le hl2 (Bel.size hbw);replace c2_0:=(hh2 _).trans c2_0;replace c2_1:=(hh2 _).trans c2_1;replace c2_2:=(hh2 _).trans c2_2;replace c2_3:=(hh2 _).trans c2_3;replace c2_4:=(hh2 _).trans c2_4;have HX2:=hide hx2;have GR2_3:=hide g2_3;have GR2_4:=hide g2_4;clear hh2 hv2 hx2 hS2 g2_3 g2_4)
 have hX1:=HX1.out
 have hX2:=HX2.out
 rw[ey1]at hX1
 rw[ey2,hX1]at hX2
 obtain⟨rfl,rfl,hs2,rfl,rfl⟩:=TObject.mk.inj (show TObject.mk x1_0 x1_1 (x12+1) x1_3 x1_4=.mk x2_0 x2_1 x2_2 x2_3 x2_4 from hX2)
 have hsn:x1_2≠x2_2:=by
  rw[hX1]at hser
  rw[←hs2]
  exact hser
 clear hX1 hX2 HX1 HX2 ey1 ey2 hser
 have dn1:decide ((nn:Int)<(y2.length:Int))=true:=by simp;omega
 have dn2:decide ((x2.length:Int)<(y2.length:Int))=true:=by simp;omega
 have HL1:=hide ((show x1_3.length≤C1_3∧C1_3≤maxLen from⟨by simpa using GR1_3.out.1,GR1_3.out.2.1⟩))
 refine wp_region_inv 15 (fun s f wq=>(Bel wr wq)∧(s 0=true→(f 0)=.pointer (some ⟨bo,2,none⟩))∧(s 1=true→(f 1)=.slice (some ⟨b1,o1,none⟩) y2.length d2)∧(s 2=true→(f 2)=.pointer (some ⟨bv,1,none⟩))∧(s 3=true→(f 3)=.int .i64 (nn:Int))∧(s 4=true→(f 4)=.pointer (some ⟨b1,o1+nn*5,none⟩))∧(s 5=true→(f 5)=.agg #[.int .i64 x1_0,.int .i64 x1_1,.int .i64 x1_2,.slice A1_3 x1_3.length C1_3,.slice A1_4 x1_4.length C1_4])∧(s 6=true→(f 6)=.pointer (some ⟨bo,2,none⟩))∧(s 7=true→(f 7)=.slice (some ⟨b1,o1,none⟩) y2.length d2)∧(s 8=true→(f 8)=.pointer (some ⟨bx,1,none⟩))∧(s 9=true→(f 9)=.int .i64 (x2.length:Int))∧(s 10=true→(f 10)=.pointer (some ⟨b1,o1+x2.length*5,none⟩))∧(s 11=true→(f 11)=.agg #[.int .i64 x1_0,.int .i64 x1_1,.int .i64 x2_2,.slice A2_3 x1_3.length C2_3,.slice A2_4 x1_4.length C2_4])∧(s 12=true→s 14=false→BxO wr.heap.size wq (f 12) (.int .i64 0) (.int .i64 0) (.int .i64 0) (.slice none 0 0) (.slice none 0 0))∧(s 14=true→BxO wr.heap.size wq (f 12) (.int .i64 x1_0) (.int .i64 x1_1) (.int .i64 x1_2) (.slice A1_3 x1_3.length C1_3) (.slice A1_4 x1_4.length C1_4))∧(s 13=true→BxO wr.heap.size wq (f 13) (.int .i64 0) (.int .i64 0) (.int .i64 0) (.slice none 0 0) (.slice none 0 0))∧(s 12=true→s 13=true→∀g:Nat,(f 12)=.pointer (some ⟨g,0,none⟩)→(f 13)≠.pointer (some ⟨g,0,none⟩))) [(0,some 68),(1,some 69),(2,some 70),(3,some 71),(4,some 72),(5,some 73),(6,some 74),(7,some 75),(8,some 76),(9,some 77),(10,some 78),(11,some 79),(12,some 11),(13,some 12),(14,none),(15,none)] rfl (by kernel_rfl) (by kernel_rfl) ?hJ rfl ?hstep ?hlast
 case hJ=>exact fun u=>⟨bl,(fun h=>absurd h Bool.false_ne_true),(fun h=>absurd h Bool.false_ne_true),(fun h=>absurd h Bool.false_ne_true),(fun h=>absurd h Bool.false_ne_true),(fun h=>absurd h Bool.false_ne_true),(fun h=>absurd h Bool.false_ne_true),(fun h=>absurd h Bool.false_ne_true),(fun h=>absurd h Bool.false_ne_true),(fun h=>absurd h Bool.false_ne_true),(fun h=>absurd h Bool.false_ne_true),(fun h=>absurd h Bool.false_ne_true),(fun h=>absurd h Bool.false_ne_true),(fun h=>absurd h Bool.false_ne_true),(fun h=>absurd h Bool.false_ne_true),(fun h=>absurd h Bool.false_ne_true),(fun h=>absurd h Bool.false_ne_true)⟩
 case hstep =>
  simp only[putP,Act.put,List.setIfInBounds_toArray,List.set_cons_zero,List.set_cons_succ,List.getElem_toArray,List.getElem_cons_zero,List.getElem_cons_succ]
  refine (stepsJ_cons (i:=0) (i2:=1) (o:=_) rfl ?s0 (stepsJ_cons (i:=1) (i2:=2) (o:=_) rfl ?s1 (stepsJ_cons (i:=2) (i2:=3) (o:=_) rfl ?s2 (stepsJ_cons (i:=3) (i2:=4) (o:=_) rfl ?s3 (stepsJ_cons (i:=4) (i2:=5) (o:=_) rfl ?s4 (stepsJ_cons (i:=5) (i2:=6) (o:=_) rfl ?s5 (stepsJ_cons (i:=6) (i2:=7) (o:=_) rfl ?s6 (stepsJ_cons (i:=7) (i2:=8) (o:=_) rfl ?s7 (stepsJ_cons (i:=8) (i2:=9) (o:=_) rfl ?s8 (stepsJ_cons (i:=9) (i2:=10) (o:=_) rfl ?s9 (stepsJ_cons (i:=10) (i2:=11) (o:=_) rfl ?s10 (stepsJ_cons (i:=11) (i2:=12) (o:=_) rfl ?s11 (stepsJ_cons (i:=12) (i2:=13) (o:=_) rfl ?s12 (stepsJ_cons (i:=13) (i2:=14) (o:=_) rfl ?s13 (stepsJ_cons (i:=14) (i2:=15) (o:=_) rfl ?s14 (stepsJ_nil (by decide)))))))))))))))))
  case s0 =>
   intro uf wa s hs ha cl hJ K hK
   obtain⟨j_B,j_f0,j_l0,j_f1,j_l1,j_i0,j_a0,j_f2,j_l2,j_f3,j_l3,j_i1,j_b0,j_zA,j_xA,j_zB,j_ne⟩:=hJ
   simp only[Act.put,List.setIfInBounds_toArray,List.set_cons_zero,List.set_cons_succ,List.getElem_toArray,List.getElem_cons_zero,List.getElem_cons_succ]at hK ⊢
   go_simp
   exact hK.out _ _ ⟨j_B,fun _=>rfl,j_l0,j_f1,j_l1,j_i0,j_a0,j_f2,j_l2,j_f3,j_l3,j_i1,j_b0,j_zA,j_xA,j_zB,j_ne⟩
  case s1 =>
   intro uf wa s hs ha cl hJ K hK
   obtain⟨j_B,j_f0,j_l0,j_f1,j_l1,j_i0,j_a0,j_f2,j_l2,j_f3,j_l3,j_i1,j_b0,j_zA,j_xA,j_zB,j_ne⟩:=hJ
   have e_f0:=j_f0 (ha 0 (by kernel_rfl))
   simp only[Act.put,List.setIfInBounds_toArray,List.set_cons_zero,List.set_cons_succ,List.getElem_toArray,List.getElem_cons_zero,List.getElem_cons_succ]at hK ⊢
   rw[e_f0]at hK ⊢
   obtain⟨hlo,hfo,ko_0,ko_1,ko_2,ko_3,ko_4,ko_5,ko_6,ko_7,ko_8,ko_9,ko_10,ko_11,ko_12⟩:=(M.out.box).on j_B
   go_simp
   exact hK.out _ _ ⟨j_B,j_f0,fun _=>rfl,j_f1,j_l1,j_i0,j_a0,j_f2,j_l2,j_f3,j_l3,j_i1,j_b0,j_zA,j_xA,j_zB,j_ne⟩
  case s2 =>
   intro uf wa s hs ha cl hJ K hK
   obtain⟨j_B,j_f0,j_l0,j_f1,j_l1,j_i0,j_a0,j_f2,j_l2,j_f3,j_l3,j_i1,j_b0,j_zA,j_xA,j_zB,j_ne⟩:=hJ
   simp only[Act.put,List.setIfInBounds_toArray,List.set_cons_zero,List.set_cons_succ,List.getElem_toArray,List.getElem_cons_zero,List.getElem_cons_succ]at hK ⊢
   go_simp
   exact hK.out _ _ ⟨j_B,j_f0,j_l0,fun _=>rfl,j_l1,j_i0,j_a0,j_f2,j_l2,j_f3,j_l3,j_i1,j_b0,j_zA,j_xA,j_zB,j_ne⟩
  case s3 =>
   intro uf wa s hs ha cl hJ K hK
   obtain⟨j_B,j_f0,j_l0,j_f1,j_l1,j_i0,j_a0,j_f2,j_l2,j_f3,j_l3,j_i1,j_b0,j_zA,j_xA,j_zB,j_ne⟩:=hJ
   have e_f1:=j_f1 (ha 2 (by kernel_rfl))
   simp only[Act.put,List.setIfInBounds_toArray,List.set_cons_zero,List.set_cons_succ,List.getElem_toArray,List.getElem_cons_zero,List.getElem_cons_succ]at hK ⊢
   rw[e_f1]at hK ⊢
   obtain⟨vl,vf,vb_0,vb_1,vb_2,vb_3,vb_4,vb_5⟩:=(L.out.vb).on j_B
   go_simp
   exact hK.out _ _ ⟨j_B,j_f0,j_l0,j_f1,fun _=>rfl,j_i0,j_a0,j_f2,j_l2,j_f3,j_l3,j_i1,j_b0,j_zA,j_xA,j_zB,j_ne⟩
  case s4 =>
   intro uf wa s hs ha cl hJ K hK
   obtain⟨j_B,j_f0,j_l0,j_f1,j_l1,j_i0,j_a0,j_f2,j_l2,j_f3,j_l3,j_i1,j_b0,j_zA,j_xA,j_zB,j_ne⟩:=hJ
   have e_l0:=j_l0 (ha 1 (by kernel_rfl))
   have e_l1:=j_l1 (ha 3 (by kernel_rfl))
   simp only[Act.put,List.setIfInBounds_toArray,List.set_cons_zero,List.set_cons_succ,List.getElem_toArray,List.getElem_cons_zero,List.getElem_cons_succ]at hK ⊢
   rw[e_l0]at hK ⊢
   rw[e_l1]at hK ⊢
   go_simp
   exact hK.out _ _ ⟨j_B,j_f0,j_l0,j_f1,j_l1,fun _=>rfl,j_a0,j_f2,j_l2,j_f3,j_l3,j_i1,j_b0,j_zA,j_xA,j_zB,j_ne⟩
  case s5 =>
   intro uf wa s hs ha cl hJ K hK
   obtain⟨j_B,j_f0,j_l0,j_f1,j_l1,j_i0,j_a0,j_f2,j_l2,j_f3,j_l3,j_i1,j_b0,j_zA,j_xA,j_zB,j_ne⟩:=hJ
   have e_i0:=j_i0 (ha 4 (by kernel_rfl))
   simp only[Act.put,List.setIfInBounds_toArray,List.set_cons_zero,List.set_cons_succ,List.getElem_toArray,List.getElem_cons_zero,List.getElem_cons_succ]at hK ⊢
   rw[e_i0]at hK ⊢
   have q0:=(j_B.box b1 hw1 _).trans c1_0
   have q1:=(j_B.box b1 hw1 _).trans c1_1
   have q2:=(j_B.box b1 hw1 _).trans c1_2
   have q3:=(j_B.box b1 hw1 _).trans c1_3
   have q4:=(j_B.box b1 hw1 _).trans c1_4
   go_simp
   exact hK.out _ _ ⟨j_B,j_f0,j_l0,j_f1,j_l1,j_i0,fun _=>rfl,j_f2,j_l2,j_f3,j_l3,j_i1,j_b0,j_zA,j_xA,j_zB,j_ne⟩
  case s6 =>
   intro uf wa s hs ha cl hJ K hK
   obtain⟨j_B,j_f0,j_l0,j_f1,j_l1,j_i0,j_a0,j_f2,j_l2,j_f3,j_l3,j_i1,j_b0,j_zA,j_xA,j_zB,j_ne⟩:=hJ
   simp only[Act.put,List.setIfInBounds_toArray,List.set_cons_zero,List.set_cons_succ,List.getElem_toArray,List.getElem_cons_zero,List.getElem_cons_succ]at hK ⊢
   go_simp
   exact hK.out _ _ ⟨j_B,j_f0,j_l0,j_f1,j_l1,j_i0,j_a0,fun _=>rfl,j_l2,j_f3,j_l3,j_i1,j_b0,j_zA,j_xA,j_zB,j_ne⟩
  case s7 =>
   intro uf wa s hs ha cl hJ K hK
   obtain⟨j_B,j_f0,j_l0,j_f1,j_l1,j_i0,j_a0,j_f2,j_l2,j_f3,j_l3,j_i1,j_b0,j_zA,j_xA,j_zB,j_ne⟩:=hJ
   have e_f2:=j_f2 (ha 6 (by kernel_rfl))
   simp only[Act.put,List.setIfInBounds_toArray,List.set_cons_zero,List.set_cons_succ,List.getElem_toArray,List.getElem_cons_zero,List.getElem_cons_succ]at hK ⊢
   rw[e_f2]at hK ⊢
   obtain⟨hlo,hfo,ko_0,ko_1,ko_2,ko_3,ko_4,ko_5,ko_6,ko_7,ko_8,ko_9,ko_10,ko_11,ko_12⟩:=(M.out.box).on j_B
   go_simp
   exact hK.out _ _ ⟨j_B,j_f0,j_l0,j_f1,j_l1,j_i0,j_a0,j_f2,fun _=>rfl,j_f3,j_l3,j_i1,j_b0,j_zA,j_xA,j_zB,j_ne⟩
  case s8 =>
   intro uf wa s hs ha cl hJ K hK
   obtain⟨j_B,j_f0,j_l0,j_f1,j_l1,j_i0,j_a0,j_f2,j_l2,j_f3,j_l3,j_i1,j_b0,j_zA,j_xA,j_zB,j_ne⟩:=hJ
   simp only[Act.put,List.setIfInBounds_toArray,List.set_cons_zero,List.set_cons_succ,List.getElem_toArray,List.getElem_cons_zero,List.getElem_cons_succ]at hK ⊢
   go_simp
   exact hK.out _ _ ⟨j_B,j_f0,j_l0,j_f1,j_l1,j_i0,j_a0,j_f2,j_l2,fun _=>rfl,j_l3,j_i1,j_b0,j_zA,j_xA,j_zB,j_ne⟩
  case s9 =>
   intro uf wa s hs ha cl hJ K hK
   obtain⟨j_B,j_f0,j_l0,j_f1,j_l1,j_i0,j_a0,j_f2,j_l2,j_f3,j_l3,j_i1,j_b0,j_zA,j_xA,j_zB,j_ne⟩:=hJ
   have e_f3:=j_f3 (ha 8 (by kernel_rfl))
   simp only[Act.put,List.setIfInBounds_toArray,List.set_cons_zero,List.set_cons_succ,List.getElem_toArray,List.getElem_cons_zero,List.getElem_cons_succ]at hK ⊢
   rw[e_f3]at hK ⊢
   obtain⟨vl,vf,vo_0,vo_1,vo_2,vo_3,vo_4,vo_5⟩:=(M.out.vb).on j_B
   go_simp
   exact hK.out _ _ ⟨j_B,j_f0,j_l0,j_f1,j_l1,j_i0,j_a0,j_f2,j_l2,j_f3,fun _=>rfl,j_i1,j_b0,j_zA,j_xA,j_zB,j_ne⟩
  case s10 =>
   intro uf wa s hs ha cl hJ K hK
   obtain⟨j_B,j_f0,j_l0,j_f1,j_l1,j_i0,j_a0,j_f2,j_l2,j_f3,j_l3,j_i1,j_b0,j_zA,j_xA,j_zB,j_ne⟩:=hJ
   have e_l2:=j_l2 (ha 7 (by kernel_rfl))
   have e_l3:=j_l3 (ha 9 (by kernel_rfl))
   simp only[Act.put,List.setIfInBounds_toArray,List.set_cons_zero,List.set_cons_succ,List.getElem_toArray,List.getElem_cons_zero,List.getElem_cons_succ]at hK ⊢
   rw[e_l2]at hK ⊢
   rw[e_l3]at hK ⊢
   go_simp
   exact hK.out _ _ ⟨j_B,j_f0,j_l0,j_f1,j_l1,j_i0,j_a0,j_f2,j_l2,j_f3,j_l3,fun _=>rfl,j_b0,j_zA,j_xA,j_zB,j_ne⟩
  case s11 =>
   intro uf wa s hs ha cl hJ K hK
   obtain⟨j_B,j_f0,j_l0,j_f1,j_l1,j_i0,j_a0,j_f2,j_l2,j_f3,j_l3,j_i1,j_b0,j_zA,j_xA,j_zB,j_ne⟩:=hJ
   have e_i1:=j_i1 (ha 10 (by kernel_rfl))
   simp only[Act.put,List.setIfInBounds_toArray,List.set_cons_zero,List.set_cons_succ,List.getElem_toArray,List.getElem_cons_zero,List.getElem_cons_succ]at hK ⊢
   rw[e_i1]at hK ⊢
   have q0:=(j_B.box b1 hw1 _).trans c2_0
   have q1:=(j_B.box b1 hw1 _).trans c2_1
   have q2:=(j_B.box b1 hw1 _).trans c2_2
   have q3:=(j_B.box b1 hw1 _).trans c2_3
   have q4:=(j_B.box b1 hw1 _).trans c2_4
   go_simp
   exact hK.out _ _ ⟨j_B,j_f0,j_l0,j_f1,j_l1,j_i0,j_a0,j_f2,j_l2,j_f3,j_l3,j_i1,fun _=>rfl,j_zA,j_xA,j_zB,j_ne⟩
  case s12 =>
   intro uf wa s hs ha cl hJ K hK
   obtain⟨j_B,j_f0,j_l0,j_f1,j_l1,j_i0,j_a0,j_f2,j_l2,j_f3,j_l3,j_i1,j_b0,j_zA,j_xA,j_zB,j_ne⟩:=hJ
   simp only[Act.put,List.setIfInBounds_toArray,List.set_cons_zero,List.set_cons_succ,List.getElem_toArray,List.getElem_cons_zero,List.getElem_cons_succ]at hK ⊢
   have hz:=Bel.size j_B
   have hbx:Bel wa (wa.alloc (.cells #[.int .i64 0,.int .i64 0,.int .i64 0,.slice none 0 0,.slice none 0 0] 42)):=bl
   go_simp
   have hsA:s 14=false:=by
    cases hq:s 14 with
    | false=>rfl
    | true=>exact absurd (cl 14 hq 12 (by kernel_rfl)) (by rw[hs];exact Bool.false_ne_true)
   exact hK.out _ _ ⟨j_B.trans hbx,j_f0,j_l0,j_f1,j_l1,j_i0,j_a0,j_f2,j_l2,j_f3,j_l3,j_i1,j_b0,fun _ _=>⟨wa.heap.size,rfl,hz,OB.new _ _⟩,fun h=>absurd (hsA.symm.trans h) Bool.false_ne_true,fun h=>(j_zB h).on hbx,fun _ h g h1 h2=>by
    obtain⟨g2,e2,-,ho⟩:=j_zB h
    have h3:=ho.1
    have e3:=e2.symm.trans h2
    have h4:Value.pointer (some ⟨wa.heap.size,0,none⟩)=.pointer (some ⟨g,0,none⟩):=h1
    simp at h4 e3
    omega⟩
  case s13 =>
   intro uf wa s hs ha cl hJ K hK
   obtain⟨j_B,j_f0,j_l0,j_f1,j_l1,j_i0,j_a0,j_f2,j_l2,j_f3,j_l3,j_i1,j_b0,j_zA,j_xA,j_zB,j_ne⟩:=hJ
   simp only[Act.put,List.setIfInBounds_toArray,List.set_cons_zero,List.set_cons_succ,List.getElem_toArray,List.getElem_cons_zero,List.getElem_cons_succ]at hK ⊢
   have hz:=Bel.size j_B
   have hbx:Bel wa (wa.alloc (.cells #[.int .i64 0,.int .i64 0,.int .i64 0,.slice none 0 0,.slice none 0 0] 42)):=bl
   go_simp
   exact hK.out _ _ ⟨j_B.trans hbx,j_f0,j_l0,j_f1,j_l1,j_i0,j_a0,j_f2,j_l2,j_f3,j_l3,j_i1,j_b0,fun h1 h2=>(j_zA h1 h2).on hbx,fun h=>(j_xA h).on hbx,fun _=>⟨wa.heap.size,rfl,hz,OB.new _ _⟩,fun h _ g h1 h2=>by
    have hg:g<wa.heap.size:=by
     cases hq:s 14 with
     | false =>
      obtain⟨g2,e2,-,ho⟩:=j_zA h hq
      have h3:=ho.1
      have e3:=e2.symm.trans h1
      simp at e3
      omega
     | true =>
      obtain⟨g2,e2,-,ho⟩:=j_xA hq
      have h3:=ho.1
      have e3:=e2.symm.trans h1
      simp at e3
      omega
    have h4:Value.pointer (some ⟨wa.heap.size,0,none⟩)=.pointer (some ⟨g,0,none⟩):=h2
    simp at h4 <;> omega⟩
  case s14 =>
   intro uf wa s hs ha cl hJ K hK
   obtain⟨j_B,j_f0,j_l0,j_f1,j_l1,j_i0,j_a0,j_f2,j_l2,j_f3,j_l3,j_i1,j_b0,j_zA,j_xA,j_zB,j_ne⟩:=hJ
   have e_a0:=j_a0 (ha 5 (by kernel_rfl))
   simp only[Act.put,List.setIfInBounds_toArray,List.set_cons_zero,List.set_cons_succ,List.getElem_toArray,List.getElem_cons_zero,List.getElem_cons_succ]at hK ⊢
   rw[e_a0]at hK ⊢
   obtain⟨g,eg,hg,ho⟩:=j_zA (ha 12 (by kernel_rfl)) hs
   have eg2:uf 12=.pointer (some ⟨g,0,none⟩):=eg
   rw[eg2]at hK ⊢
   refine wp_store_mid 42 (.tmp 11) (.tmp 73) rfl g 0 #[.int .i64 x1_0,.int .i64 x1_1,.int .i64 x1_2,.slice A1_3 x1_3.length C1_3,.slice A1_4 x1_4.length C1_4] rfl rfl ho.there (by kernel_rfl) (by simp[Value.oneCell']) ?_
   exact hK.out undef _ ⟨bel_fill j_B (Nat.le_refl _) hg _,j_f0,j_l0,j_f1,j_l1,j_i0,j_a0,j_f2,j_l2,j_f3,j_l3,j_i1,j_b0,fun _ h=>absurd (show true=false from h) (by decide),fun _=>⟨g,eg,hg,ho.fill (.int .i64 x1_0) (.int .i64 x1_1) (.int .i64 x1_2) (.slice A1_3 x1_3.length C1_3) (.slice A1_4 x1_4.length C1_4)⟩,fun h=>(j_zB h).far (j_ne (ha 12 (by kernel_rfl)) h g eg) _,j_ne⟩
 case hlast =>
  simp only[putP,Act.put,List.setIfInBounds_toArray,List.set_cons_zero,List.set_cons_succ,List.getElem_toArray,List.getElem_cons_zero,List.getElem_cons_succ]
  intro uf wa ⟨s,hall,hJ⟩ K hK
  obtain⟨j_B,j_f0,j_l0,j_f1,j_l1,j_i0,j_a0,j_f2,j_l2,j_f3,j_l3,j_i1,j_b0,j_zA,j_xA,j_zB,j_ne⟩:=hJ
  have e_b0:=j_b0 (hall 11 (by decide))
  obtain⟨ga,ega,hga,hoa⟩:=j_xA (hall 14 (by decide))
  obtain⟨gb,egb,hgb,hob⟩:=j_zB (hall 13 (by decide))
  have hne:=j_ne (hall 12 (by decide)) (hall 13 (by decide)) ga ega
  have hnab:ga≠gb:=fun e=>hne (by rw[egb,e])
  have ega2:uf 12=.pointer (some ⟨ga,0,none⟩):=ega
  have egb2:uf 13=.pointer (some ⟨gb,0,none⟩):=egb
  have e_b2:uf 11=.agg #[.int .i64 x1_0,.int .i64 x1_1,.int .i64 x2_2,.slice A2_3 x1_3.length C2_3,.slice A2_4 x1_4.length C2_4]:=e_b0
  rw[ega2,egb2,e_b2]at hK ⊢
  clear j_f0 j_l0 j_f1 j_l1 j_i0 j_a0 j_f2 j_l2 j_f3 j_l3 j_i1 j_b0 j_zA j_xA j_zB j_ne hall ega egb hne e_b0
  refine wp_store_mid 42 (.tmp 12) (.tmp 79) rfl gb 0 #[.int .i64 x1_0,.int .i64 x1_1,.int .i64 x2_2,.slice A2_3 x1_3.length C2_3,.slice A2_4 x1_4.length C2_4] rfl rfl hob.there (by kernel_rfl) (by simp[Value.oneCell']) ?_
  refine hK.out undef _ ?_
  clear hK
  have OA:=hide (OB.block hoa (Nat.le_of_eq (setCells_but gb [.int .i64 x1_0,.int .i64 x1_1,.int .i64 x2_2,.slice A2_3 x1_3.length C2_3,.slice A2_4 x1_4.length C2_4] 0 wa).size.symm) ((setCells_but gb [.int .i64 x1_0,.int .i64 x1_1,.int .i64 x2_2,.slice A2_3 x1_3.length C2_3,.slice A2_4 x1_4.length C2_4] 0 wa).block ga hnab))
  have OBx:=hide (hob.fill (.int .i64 x1_0) (.int .i64 x1_1) (.int .i64 x2_2) (.slice A2_3 x1_3.length C2_3) (.slice A2_4 x1_4.length C2_4))
  have BZ:=hide (bel_fill j_B (Nat.le_refl _) hgb [.int .i64 x1_0,.int .i64 x1_1,.int .i64 x2_2,.slice A2_3 x1_3.length C2_3,.slice A2_4 x1_4.length C2_4])
  obtain⟨wz,hwz⟩:∃x,wa.setCells gb 0 [.int .i64 x1_0,.int .i64 x1_1,.int .i64 x2_2,.slice A2_3 x1_3.length C2_3,.slice A2_4 x1_4.length C2_4]=x:=⟨_,rfl⟩
  rw[hwz]at OA OBx BZ
  rw[show wa.setCells gb 0 (#[Value.int .i64 x1_0,.int .i64 x1_1,.int .i64 x2_2,.slice A2_3 x1_3.length C2_3,.slice A2_4 x1_4.length C2_4]:Array Value).toList=wz from hwz]
  clear hwz hoa hob j_B ega2 egb2 e_b2
  obtain⟨hl1,hf1,p0,p1,p2,p3,p4⟩:=OA.out
  obtain⟨hl2,hf2,r0,r1,r2,r3,r4⟩:=OBx.out
  have L:=hide (L.out.on BZ.out)
  have M:=hide (M.out.on BZ.out)
  obtain⟨vl,vf,vb_0,vb_1,vb_2,vb_3,vb_4,vb_5⟩:=L.out.vb
  obtain⟨ul,uf2,vo_0,vo_1,vo_2,vo_3,vo_4,vo_5⟩:=M.out.vb
  have dne:(!(VVal.eqB ⟨rk,x2.length,0,ByteArray.empty,0,0⟩ ⟨rk,nn,i,t,lo,hi⟩))=true:=by
   unfold VVal.eqB
   have e:decide (((x2.length:Nat):Int)=((nn:Nat):Int))=false:=decide_eq_false (by omega)
   simp[e]
  have hrun:=fun w=>(run_neV rk x2.length 0 ByteArray.empty 0 0 rk nn i t lo hi w).trans (by rw[dne])
  have dse:(x1_2 != x2_2)=true:=by simpa using hsn
  go_wp2_with (first
   | ((with_reducible refine (same_any x1_3 _ _ _ _ _ _ _ (Row.bel (Bel.trans BZ.out bl) GR1_3.out) (Row.bel (Bel.trans BZ.out bl) GR2_3.out)).mono ?_);(rintro e w10 ⟨rfl,hb10⟩;have k10:Bel wz w10:=Bel.trans bl hb10;obtain⟨ml1,mf1,m0,m1,m2,m3,m4⟩:=OA.out.on k10;obtain⟨ml2,mf2,t0,t1,t2,t3,t4⟩:=OBx.out.on k10;clear hb10))
   | ((with_reducible refine (same_any x1_4 _ _ _ _ _ _ _ (Row.bel (Bel.trans BZ.out (Bel.trans k10 bl)) GR1_4.out) (Row.bel (Bel.trans BZ.out (Bel.trans k10 bl)) GR2_4.out)).mono ?_);(rintro e w11 ⟨rfl,hb11⟩;have k11:Bel wz w11:=Bel.trans k10 (Bel.trans bl hb11);obtain⟨sl1,sf1,s0,s1,s2,s3,s4⟩:=OA.out.on k11;obtain⟨sl2,sf2,z0,z1,z2,z3,z4⟩:=OBx.out.on k11;clear hb11)))
  all_goals
   go_returns
   exact⟨by first | rfl | simp[*],L.out.bel.trans (k11.trans bl)⟩
end Go.Proofs.YtoikhhnmbbbjjaaDoor
