/- Lists of record types copied, both sides. -/
import Derived.Test.YtehcjlkgfgpjnaaGreatDoorPOw
import Derived.Test.YtehcjlkgfgpjnaaGreatDoorPTV
import Derived.Test.YtehcjlkgfgpjnaaGreatDoorPMStringS
import Derived.Deep.RegionHeld3
import Derived.Test.YtehcjlkgfgpjnaaGreatDoorPB
import Derived.Deep.MidRow
import Derived.Deep.Cut
namespace Go.Proofs.YtehcjlkgfgpjnaaGreatDoor
set_option linter.unusedVariables false
set_option linter.unusedSimpArgs false
set_option maxRecDepth 100000
open Go.RowKit
theorem wp_named2 {P:Program} {c:Code} {Q:Exit→Act→World→Prop} {a:Act} {W:World} (h:∀wq,W=wq→Code.wp P c Q a wq):Code.wp P c Q a W:=h W rfl
end Go.Proofs.YtehcjlkgfgpjnaaGreatDoor
namespace Go.Proofs.YtehcjlkgfgpjnaaGreatDoor
set_option linter.unusedVariables false
set_option linter.unusedSimpArgs false
set_option maxRecDepth 100000
open Go.RowKit
def waitsFor (ops:Array Oper) (j:Nat):List Nat:=match ops[j]? with
 | some o=>(o.after.toList.filter (fun e=>Region.binds .any e)).map (·.on)
 | none=>[]
def aheadOf (ops:Array Oper):Nat→List Nat→List Nat
 | 0,s=>s
 | f+1,s=>aheadOf ops f (s++s.flatMap (waitsFor ops)).eraseDups
def putF (u:Nat→Value):List (Option Tmp)→Nat→Act→Act
 | [],_,a=>a
 | d :: r,k,a=>putF u r (k+1) (a.put d (u k))
def idxD:List (Option Tmp)→Nat→List (Nat × Option Tmp)
 | [],_=>[]
 | d :: r,k=>(k,d) :: idxD r (k+1)
def putP (u:Nat→Value):List (Nat × Option Tmp)→Act→Act
 | [],a=>a
 | (k,d) :: r,a=>putP u r (a.put d (u k))
theorem putP_idx (u:Nat→Value):∀(l:List (Option Tmp)) (k:Nat) (a:Act),putP u (idxD l k) a=putF u l k a
 | [],_,_=>rfl
 | d :: r,k,a=>putP_idx u r (k+1) (a.put d (u k))
def dsts (ops:Array Oper):List (Option Tmp):=ops.toList.map (·.dst)
def updF (u:Nat→Value) (i:Nat) (v:Value):Nat→Value:=fun j=>if j=i then v else u j
def apartD:List (Option Tmp)→Bool
 | []=>true
 | d :: r=>(d.isNone||r.all (fun e=>e != d))&&apartD r
def formOk (ops:Array Oper) (m:Nat):Bool :=
 (List.range ops.size).all (fun j=>(waitsFor ops j).all (fun k=>decide (k<j)))&&apartD (dsts ops)&&(List.range m).all (fun j=>(aheadOf ops 12 [m]).contains j)&&decide (ops.size=m+1)&&ops.toList.all (fun o=>o.guard.isNone)
theorem putF_congr {u u':Nat→Value}:∀(l:List (Option Tmp)) (k:Nat) (a:Act),(∀j,k≤j→u j=u' j)→putF u l k a=putF u' l k a
 | [],_,_,_=>rfl
 | d :: r,k,a,h=>by
  simp only[putF]
  rw[h k (Nat.le_refl k)]
  exact putF_congr r (k+1) _ (fun j hj=>h j (by omega))
theorem put_put (a:Act) (d:Option Tmp) (x v:Value):(a.put d x).put d v=a.put d v:=by
 cases d with
 | none=>rfl
 | some t=>simp[Act.put]
theorem putF_put {u:Nat→Value} {d:Option Tmp} (v:Value):∀(l:List (Option Tmp)) (k:Nat) (a:Act),(d.isNone||l.all (fun e=>e != d))=true→(putF u l k a).put d v=putF u l k (a.put d v)
 | [],_,_,_=>rfl
 | e :: r,k,a,h=>by
  simp only[putF]
  have hr:(d.isNone||r.all (fun e=>e != d))=true:=by
   cases hd:d.isNone
   ·
    simp only[hd,Bool.false_or,List.all_cons,Bool.and_eq_true]at h ⊢
    exact h.2
   ·
    rfl
  rw[putF_put v r (k+1) _ hr]
  congr 1
  refine Act.put_comm a _ _ fun t ht hd=>?_
  subst hd
  simp[ht]at h
theorem putF_upd {u:Nat→Value} (v:Value):∀(l:List (Option Tmp)) (k i:Nat) (d:Option Tmp) (a:Act),apartD l=true→l[i]?=some d→(putF u l k a).put d v=putF (updF u (k+i) v) l k a
 | [],_,_,_,_,_,h=>by simp at h
 | e :: r,k,0,d,a,hp,h=>by
  obtain rfl:e=d:=by simpa using h
  simp only[apartD,Bool.and_eq_true]at hp
  simp only[putF]
  rw[putF_put v r (k+1) _ hp.1,put_put]
  have e2:updF u (k+0) v k=v:=by simp[updF]
  rw[e2]
  exact putF_congr r (k+1) _ (fun j hj=>by simp only[updF];rw[if_neg (by omega)])
 | e :: r,k,i+1,d,a,hp,h=>by
  simp only[apartD,Bool.and_eq_true]at hp
  simp only[putF]
  rw[putF_upd v r (k+1) i d _ hp.2 (by simpa using h),show k+1+i=k+(i+1) by omega]
  have e2:updF u (k+(i+1)) v k=u k:=by simp only[updF];rw[if_neg (by omega)]
  rw[e2]
theorem put_same (a:Act) (d:Option Tmp):a.put d ((d.map (fun t=>a.tmps.getD t undef)).getD undef)=a:=by
 cases d with
 | none=>rfl
 | some t =>
  simp only[Act.put,Option.map_some,Option.getD_some]
  congr 1
  refine Array.ext (by simp) fun i h1 h2=>?_
  rw[Array.getElem_setIfInBounds (by simpa using h2)]
  split
  ·
   rename_i e
   subst e
   simp[h2]
  ·
   rfl
theorem putF_same (a:Act):∀(l:List (Option Tmp)) (k:Nat) (u:Nat→Value),(∀i d,l[i]?=some d→u (k+i)=(d.map (fun t=>a.tmps.getD t undef)).getD undef)→putF u l k a=a
 | [],_,_,_=>rfl
 | d :: r,k,u,h=>by
  simp only[putF]
  have h0:=h 0 d (by simp)
  rw[Nat.add_zero]at h0
  rw[h0,put_same]
  exact putF_same a r (k+1) u (fun i e he=>by rw[show k+1+i=k+(i+1) by omega];exact h (i+1) e (by simpa using he))
theorem countP_lt {p p':Nat→Bool}:∀{l:List Nat} {i:Nat},i∈l→p i=true→p' i=false→(∀j,p' j=true→p j=true)→l.countP p'<l.countP p
 | x :: r,i,hm,h1,h2,h=>by
  rw[List.countP_cons,List.countP_cons]
  rcases List.mem_cons.1 hm with rfl | hm
  ·
   have:=List.countP_mono_left (l:=r) (fun j _ hj=>h j hj)
   simp only[h1,h2,if_true,Bool.false_eq_true,if_false]
   omega
  ·
   have:=countP_lt hm h1 h2 h
   cases q:p' x
   ·
    simp only[Bool.false_eq_true,if_false]
    split <;> omega
   ·
    simp only[h x q,if_true]
    omega
section
variable {P:Program} {ops:Array Oper} {Q:Exit→Act→World→Prop}
def ClosedL (ops:Array Oper) (listed:Array Bool):Prop:=∀j,listed.getD j false=true→∀k∈waitsFor ops j,listed.getD k false=true
theorem ahead_closed {listed:Array Bool} (hc:ClosedL ops listed):∀(f:Nat) (s:List Nat),(∀j∈s,listed.getD j false=true)→∀j∈aheadOf ops f s,listed.getD j false=true
 | 0,_,h,j,hj=>h j hj
 | f+1,s,h,j,hj=>ahead_closed hc f _ (fun i hi=>by
   rw[List.mem_eraseDups,List.mem_append]at hi
   rcases hi with hi | hi
   ·
    exact h i hi
   ·
    obtain⟨k,hk,hki⟩:=List.mem_flatMap.1 hi
    exact hc k (h k hk) i hki) j hj
theorem waits_ready {j:Nat} {listed:Array Bool} (h:j∈Region.ready .any ops listed):∀k∈waitsFor ops j,listed.getD k false=true:=by
 obtain⟨-,o,ho,hall⟩:=mem_ready.1 h
 intro k hk
 unfold waitsFor at hk
 rw[ho]at hk
 simp only[List.mem_map,List.mem_filter,Array.mem_toList_iff]at hk
 obtain⟨e,⟨he,hb⟩,rfl⟩:=hk
 exact hall e he hb
theorem getD_true_of {l:Array Bool} {j:Nat} (h:j<l.size) (d:Bool):l.getD j d=l[j]:=by simp[h]
theorem closed_set {listed:Array Bool} {i:Nat} (hc:ClosedL ops listed) (hr:i∈Region.ready .any ops listed):ClosedL ops (listed.setIfInBounds i true):=by
 intro j hj k hk
 refine getD_set_true ?_
 by_cases h:i=j
 ·
  subst h
  exact waits_ready hr k hk
 ·
  rw[getD_set_ne false h]at hj
  exact hc j hj k hk
theorem ready_nil {listed:Array Bool} (hw:∀j,j<ops.size→∀k∈waitsFor ops j,k<j) (hs:listed.size=ops.size) (hr:Region.ready .any ops listed=[]):∀(n j:Nat),j<n→j<ops.size→listed.getD j false=true
 | 0,_,h,_=>by omega
 | n+1,j,h,hj=>by
  cases hb:listed.getD j false with
  | true=>rfl
  | false =>
   exfalso
   have hm:j∈Region.ready .any ops listed:=by
    refine mem_ready.2 ⟨by rw[getD_true_of (by omega)]at hb ⊢;exact hb,ops[j],Array.getElem?_eq_getElem hj,fun e he hbn=>?_⟩
    have hk:e.on∈waitsFor ops j:=by
     unfold waitsFor
     rw[Array.getElem?_eq_getElem hj]
     exact List.mem_map.2 ⟨e,List.mem_filter.2 ⟨Array.mem_toList_iff.2 he,hbn⟩,rfl⟩
    have:=hw j hj _ hk
    exact ready_nil hw hs hr n e.on (by omega) (by omega)
   rw[hr]at hm
   cases hm
theorem g0_of {X Y:Prop} {b:Bool} (hG:X∨(Y∧b=false)) (h:b=true):X:=hG.resolve_right fun q=>by rw[h]at q;cases q.2
end
end Go.Proofs.YtehcjlkgfgpjnaaGreatDoor
namespace Go.Proofs.YtehcjlkgfgpjnaaGreatDoor
set_option linter.unusedVariables false
set_option linter.unusedSimpArgs false
set_option maxRecDepth 100000
open Go.RowKit
def maskU (dep:Nat→List Nat) (j:Nat) (u:Nat→Value):Nat→Value:=fun k=>if k=j∨(dep j).contains k=true then u k else undef
def depOk (ops:Array Oper) (dep:Nat→List Nat) (m:Nat):Bool:=(List.range m).all (fun j=>(dep j).all (fun k=>(aheadOf ops 12 (waitsFor ops j)).contains k))
theorem maskU_upd {dep:Nat→List Nat} {i j:Nat} {u:Nat→Value} {v:Value} (hj:j≠i) (hd:(dep j).contains i=false):maskU dep j (updF u i v)=maskU dep j u:=by
 funext k
 unfold maskU
 by_cases h:k=j∨(dep j).contains k=true
 ·
  rw[if_pos h,if_pos h]
  unfold updF
  rw[if_neg]
  rintro rfl
  rcases h with h | h
  ·
   exact hj h.symm
  ·
   rw[hd]at h;cases h
 ·
  rw[if_neg h,if_neg h]
section
variable {P:Program} {ops:Array Oper} {Q:Exit→Act→World→Prop}
theorem fact_ofU {ops:Array Oper} {X:Nat→Prop} {i:Nat} (hf:∀j,(aheadOf ops 12 (waitsFor ops i)).contains j=true→X j) (j:Nat) (h:(aheadOf ops 12 (waitsFor ops i)).contains j=true):X j:=hf j h
end
end Go.Proofs.YtehcjlkgfgpjnaaGreatDoor
namespace Go.Proofs.YtehcjlkgfgpjnaaGreatDoor
set_option linter.unusedVariables false
set_option linter.unusedSimpArgs false
set_option maxRecDepth 100000
open Go.RowKit
section
variable {P:Program} {ops:Array Oper} {Q:Exit→Act→World→Prop}
def StW (ops:Array Oper) (dep:Nat→List Nat) (φ:Nat→(Nat→Value)→World→Prop) (G0 G1:World→Prop) (p m:Nat) (uv:Value) (base:Act) (listed:Array Bool) (a:Act) (w:World):Prop :=
 ∃u,a=putF u (dsts ops) 0 base∧u m=uv∧(listed.getD p false=false→G0 w)∧(listed.getD p false=true→G1 w)∧∀j,listed.getD j false=true→φ j (maskU dep j u) w
def StepW (P:Program) (ops:Array Oper) (Q:Exit→Act→World→Prop) (dep:Nat→List Nat) (φ:Nat→(Nat→Value)→World→Prop) (R:World→World→Prop) (G0 G1:World→Prop) (p m:Nat) (uv:Value) (T:(Nat→Value)→Act) (i:Nat) (o:Oper):Prop :=
 ∀(u:Nat→Value) (w:World),u m=uv→G0 w∨(G1 w∧(aheadOf ops 12 [p]).contains i=false)→(∀j,(aheadOf ops 12 (waitsFor ops i)).contains j=true→φ j (maskU dep j u) w)→∀K:Act→World→Prop,
  Shut (∀v w',R w w'→φ i (maskU dep i (updF u i v)) w'→K ((T u).put o.dst v) w')→Oper.wp P o (T u) w K Q
theorem stepsW_nil {ops:Array Oper} {dep:Nat→List Nat} {φ:Nat→(Nat→Value)→World→Prop} {R:World→World→Prop} {G0 G1:World→Prop} {p:Nat} {uv:Value} {T:(Nat→Value)→Act} {i m m2:Nat} (h:m≤i):∀j,i≤j→j<m→∀o,ops[j]?=some o→j≠p→StepW P ops Q dep φ R G0 G1 p m2 uv T j o:=fun j h1 h2=>by omega
theorem stepsW_skip {ops:Array Oper} {dep:Nat→List Nat} {φ:Nat→(Nat→Value)→World→Prop} {R:World→World→Prop} {G0 G1:World→Prop} {p p2:Nat} {uv:Value} {T:(Nat→Value)→Act} {m m2:Nat}
  (hs:∀j,p2≤j→j<m→∀o,ops[j]?=some o→j≠p→StepW P ops Q dep φ R G0 G1 p m2 uv T j o) (h2:p2=p+1:=by rfl):∀j,p≤j→j<m→∀o,ops[j]?=some o→j≠p→StepW P ops Q dep φ R G0 G1 p m2 uv T j o:=fun j h1 h3 o ho hp=>hs j (by omega) h3 o ho hp
theorem stepsW_cons {ops:Array Oper} {dep:Nat→List Nat} {φ:Nat→(Nat→Value)→World→Prop} {R:World→World→Prop} {G0 G1:World→Prop} {p:Nat} {uv:Value} {T:(Nat→Value)→Act} {i i2 m m2:Nat} {o:Oper} (ho:ops[i]?=some o) (h:StepW P ops Q dep φ R G0 G1 p m2 uv T i o)
  (hs:∀j,i2≤j→j<m→∀o,ops[j]?=some o→j≠p→StepW P ops Q dep φ R G0 G1 p m2 uv T j o) (hi:i2=i+1:=by rfl):∀j,i≤j→j<m→∀o,ops[j]?=some o→j≠p→StepW P ops Q dep φ R G0 G1 p m2 uv T j o:=fun j h1 h2 o' ho' hp=>by
 rcases Nat.lt_or_ge i j with h3 | h3
 ·
  exact hs j (by omega) h2 o' ho' hp
 ·
  obtain rfl:j=i:=by omega
  rw[ho]at ho'
  obtain rfl:=Option.some.inj ho'
  exact h
theorem wp_region_factsW {id:Nat} {base:Act} {w:World} (m p:Nat) (dep:Nat→List Nat) (φ:Nat→(Nat→Value)→World→Prop) (R R':World→World→Prop) (G0 G1:World→Prop) (uv:Value) (ds:List (Nat × Option Tmp)) {op ol:Oper} (hds:idxD (dsts ops) 0=ds)
  (hf:formOk ops m=true) (hdp:depOk ops dep m=true) (hm:P.follows .mixedOrders=true) (hpm:p<m) (huv:(((dsts ops)[m]?.getD none).map (fun t=>base.tmps.getD t undef)).getD undef=uv) (hG:G0 w.drew) (hR:∀j (v:Nat→Value) w w',R w w'→φ j v w→φ j v w') (hR':∀j (v:Nat→Value) w w',j≠p→R' w w'→φ j v w→φ j v w') (hG0:∀w w',R w w'→G0 w→G0 w') (hG1:∀w w',R w w'→G1 w→G1 w')
  (hop:ops[p]?=some op) (hol:ops[m]?=some ol)
  (hstep:∀i,0≤i→i<m→∀o,ops[i]?=some o→i≠p→StepW P ops Q dep φ R G0 G1 p m uv (fun u=>putP u ds base) i o)
  (hp:∀(u:Nat→Value) (w:World),u m=uv→G0 w→(∀j,(aheadOf ops 12 (waitsFor ops p)).contains j=true→φ j (maskU dep j u) w)→∀K:Act→World→Prop,
   Shut (∀v w',R' w w'→G1 w'→φ p (maskU dep p (updF u p v)) w'→K ((putP u ds base).put op.dst v) w') →
   Oper.wp P op (putP u ds base) w K Q)
  (hlast:∀(u:Nat→Value) (w:World),G1 w→(∀j,j<m→φ j (maskU dep j u) w)→∀K:Act→World→Prop,
   Shut (∀v w',Q .normal ((putP u ds base).put ol.dst v) w'→K ((putP u ds base).put ol.dst v) w') →
   Oper.wp P ol (putP u ds base) w K Q):(Code.region id ops true).wp P Q base w:=by
 subst hds
 simp only[putP_idx]at hstep hp hlast
 unfold depOk at hdp
 simp only[List.all_eq_true,List.mem_range]at hdp
 unfold formOk at hf
 simp only[Bool.and_eq_true,List.all_eq_true,List.mem_range,decide_eq_true_eq]at hf
 obtain⟨⟨⟨⟨hw,hap⟩,hall⟩,hsz⟩,hgd⟩:=hf
 have plain:∀(i:Nat) (o:Oper) (y:Nat→Option Bool),ops[i]?=some o→Region.wanted o y=true:=fun i o y ho=>by
  have h1:=hgd o (Array.mem_toList_iff.2 (Array.mem_of_getElem? ho))
  unfold Region.wanted
  cases hq:o.guard with
  | none=>rfl
  | some q=>rw[hq]at h1;cases h1
 have hlt:∀j,j<ops.size→∀k∈waitsFor ops j,k<j:=fun j hj k hk=>hw j hj k hk
 have hmem:∀listed:Array Bool,ClosedL ops listed→listed.getD m false=true→∀j,j<m→listed.getD j false=true:=fun listed hc h j hj =>
  ahead_closed hc 12 [m] (fun k hk=>by rw[List.mem_singleton.1 hk];exact h) j (by have:=hall j hj;simpa using this)
 have key:∀(fuel:Nat) (listed:Array Bool) (a:Act) (w:World),listed.size=ops.size→ClosedL ops listed→listed.getD m false=false→StW ops dep φ G0 G1 p m uv base listed a w→(List.range ops.size).countP (fun j=>!listed.getD j true)≤fuel→wpAny P .any ops Q fuel listed a w:=by
  intro fuel
  induction fuel with
  | zero =>
   intro listed a w hs hc hl hI hn
   exfalso
   have h0:(List.range ops.size).countP (fun j=>!listed.getD j true)=0:=by omega
   rw[List.countP_eq_zero]at h0
   have:=h0 m (List.mem_range.2 (by omega))
   rw[getD_true_of (by omega)]at this hl
   rw[hl]at this
   exact this rfl
  | succ fuel ih =>
   intro listed a w hs hc hl hI hn
   refine⟨fun hr=>?_,fun i hi=>?_⟩
   ·
    have:=ready_nil hlt hs hr (m+1) m (by omega) (by omega)
    rw[this]at hl
    cases hl
   ·
    obtain⟨hjun,o,ho,-⟩:=mem_ready.1 hi
    have hi1:i<ops.size:=(Array.getElem?_eq_some_iff.1 ho).1
    have hif:listed.getD i false=false:=by rw[getD_true_of (by omega)]at hjun ⊢;exact hjun
    obtain⟨u,rfl,hum,hg0,hg1,hφ⟩:=hI
    have hnu:∀v,i≠m→updF u i v m=uv:=fun v h=>(if_neg (fun e=>h e.symm)).trans hum
    have hd:(dsts ops)[i]?=some o.dst:=by
     unfold dsts
     rw[List.getElem?_map,Array.getElem?_toList,ho]
     rfl
    have hput:∀v,(putF u (dsts ops) 0 base).put o.dst v=putF (updF u i v) (dsts ops) 0 base:=fun v=>by
     have:=putF_upd (u:=u) v (dsts ops) 0 i o.dst base hap hd
     rwa [Nat.zero_add]at this
    have hs2:(listed.setIfInBounds i true).size=ops.size:=by simpa using hs
    have hself:(listed.setIfInBounds i true).getD i false=true:=by rw[getD_true_of (by omega),Array.getElem_setIfInBounds_self]
    have hcn:(List.range ops.size).countP (fun j=>!(listed.setIfInBounds i true).getD j true)≤fuel:=by
     have:(List.range ops.size).countP (fun j=>!(listed.setIfInBounds i true).getD j true)<(List.range ops.size).countP (fun j=>!listed.getD j true):=by
      refine countP_lt (List.mem_range.2 hi1) (by rw[hjun];rfl) ?_ (fun j hj=>?_)
      ·
       rw[getD_true_of (by omega),Array.getElem_setIfInBounds_self]
       rfl
      ·
       by_cases h:i=j
       ·
        subst h;rw[hjun];rfl
       ·
        rw[getD_set_ne true h]at hj;exact hj
     omega
    have hjm:∀j,listed.getD j false=true→j<m:=fun j hj=>by
     rcases Nat.lt_or_ge j ops.size with h | h
     ·
      rcases Nat.lt_or_ge j m with h2 | h2
      ·
       exact h2
      ·
       obtain rfl:j=m:=by omega
       rw[hl]at hj;cases hj
     ·
      rw[Array.getD_eq_getD_getElem?,Array.getElem?_eq_none (by omega)]at hj
      cases hj
    have hdep:∀j,listed.getD j false=true→(dep j).contains i=false:=fun j hj=>by
     cases hb:(dep j).contains i with
     | false=>rfl
     | true =>
      have h3:=hdp j (hjm j hj) i (by simpa using hb)
      have h4:=ahead_closed hc 12 (waitsFor ops j) (fun k hk=>hc j hj k hk) i (by simpa using h3)
      rw[hif]at h4;cases h4
    have hfacts:∀j,(aheadOf ops 12 (waitsFor ops i)).contains j=true→φ j (maskU dep j u) w:=fun j hj=>hφ j (ahead_closed hc 12 _ (waits_ready hi) j (by simpa using hj))
    have nextφ:∀(v:Value) w',φ i (maskU dep i (updF u i v)) w'→(∀j,j≠i→listed.getD j false=true→φ j (maskU dep j u) w')→∀j,(listed.setIfInBounds i true).getD j false=true→φ j (maskU dep j (updF u i v)) w':=fun v w' hv hk j hj=>by
     by_cases h:i=j
     ·
      subst h
      exact hv
     ·
      rw[getD_set_ne false h]at hj
      rw[maskU_upd (fun e=>h e.symm) (hdep j hj)]
      exact hk j (fun e=>h e.symm) hj
    by_cases him:i=m
    ·
     subst him
     have hol':o=ol:=by rw[ho]at hol;exact Option.some.inj hol
     subst hol'
     have hall4:∀j,j<i→listed.getD j false=true:=fun j hj=>by
      have h3:=hmem _ (closed_set hc hi) hself j hj
      rwa [getD_set_ne false (by omega)]at h3
     have hall2:∀j,j<i→φ j (maskU dep j u) w:=fun j hj=>hφ j (hall4 j hj)
     have hall3:∀j,j<ops.size→(listed.setIfInBounds i true).getD j false=true:=fun j hj=>by
      rcases Nat.lt_or_ge j i with h | h
      ·
       exact hmem _ (closed_set hc hi) hself j h
      ·
       obtain rfl:j=i:=by omega
       exact hself
     have hnil:Region.ready .any ops (listed.setIfInBounds i true)=[]:=by
      refine List.eq_nil_iff_forall_not_mem.2 fun k hk=>?_
      obtain⟨h1,ok,hok,-⟩:=mem_ready.1 hk
      have hk1:k<ops.size:=(Array.getElem?_eq_some_iff.1 hok).1
      have h2:=hall3 k hk1
      rw[getD_true_of (by omega)]at h1 h2
      rw[h2]at h1
      cases h1
     exact wpOp_step ho fun K' hK=>(if_pos (plain _ _ _ ho)).mpr <| hlast u w (hg1 (hall4 p hpm)) hall2 K' (fun v w' hq=>hK _ _ (wpAny_done hnil hq _))
    ·
     have him2:(listed.setIfInBounds i true).getD m false=false:=by rw[getD_set_ne false him];exact hl
     by_cases hip:i=p
     ·
      subst hip
      have hop':o=op:=by rw[ho]at hop;exact Option.some.inj hop
      subst hop'
      refine wpOp_step ho fun K' hK=>(if_pos (plain _ _ _ ho)).mpr <| hp u w hum (hg0 hif) hfacts K' (fun v w' hRw hGw hv=>hK _ _ ?_)
      exact ih _ _ _ hs2 (closed_set hc hi) him2 ⟨updF u i v,hput v,hnu v him,fun h=>(by rw[hself]at h;cases h),fun _=>hGw,nextφ v w' hv (fun j hj hl=>hR' j _ _ _ hj hRw (hφ j hl))⟩ hcn
     ·
      refine wpOp_step ho fun K' hK=>(if_pos (plain _ _ _ ho)).mpr <| hstep i (Nat.zero_le _) (by omega) o ho hip u w hum ?_ hfacts K' (fun v w' hRw hv=>hK _ _ ?_)
      ·
       cases hpl:listed.getD p false with
       | false=>exact Or.inl (hg0 hpl)
       | true =>
        refine Or.inr ⟨hg1 hpl,?_⟩
        cases hb:(aheadOf ops 12 [p]).contains i with
        | false=>rfl
        | true =>
         have h3:=ahead_closed hc 12 [p] (fun k hk=>by rw[List.mem_singleton.1 hk];exact hpl) i (by simpa using hb)
         rw[hif]at h3
         cases h3
      ·
       have hpe:(listed.setIfInBounds i true).getD p false=listed.getD p false:=getD_set_ne false hip
       exact ih _ _ _ hs2 (closed_set hc hi) him2 ⟨updF u i v,hput v,hnu v him,fun h=>hG0 _ _ hRw (hg0 (by rw[hpe]at h;exact h)),fun h=>hG1 _ _ hRw (hg1 (by rw[hpe]at h;exact h)),nextφ v w' hv (fun j hj hl=>hR j _ _ _ hRw (hφ j hl))⟩ hcn
 have hrep:∀j,(Array.replicate ops.size false).getD j false=true→False:=fun j hj=>by
  by_cases h:j<ops.size
  ·
   rw[getD_true_of (by simpa using h)]at hj;simp at hj
  ·
   simp[Array.getElem?_eq_none (show (Array.replicate ops.size false).size≤j by simpa using h)]at hj
 refine wp_region_any hm (key ops.size _ _ _ (by simp) (fun j hj=>(hrep j hj).elim) ?_ ⟨fun j=>(((dsts ops)[j]?.getD none).map (fun t=>base.tmps.getD t undef)).getD undef,?_,huv,fun _=>hG,fun h=>(hrep p h).elim,fun j hj=>(hrep j hj).elim⟩ ?_)
 ·
  rw[getD_true_of (by simp;omega)];simp
 ·
  symm
  refine putF_same base (dsts ops) 0 _ fun i d hd=>?_
  simp only[Nat.zero_add,hd,Option.getD_some]
 ·
  have:=List.countP_le_length (l:=List.range ops.size) (p:=fun j=>!(Array.replicate ops.size false).getD j true)
  simpa using this
end
end Go.Proofs.YtehcjlkgfgpjnaaGreatDoor
namespace Go.Proofs.YtehcjlkgfgpjnaaGreatDoor
set_option linter.unusedVariables false
set_option linter.unusedSimpArgs false
set_option maxRecDepth 100000
open Go.RowKit
structure Ent where
 E:TypeId
 k:Nat
 v:Value
 L:List Nat
 ds:List (List Dat)
structure Ents (N:Nat) (w:World) (l:List Ent):Prop where
 own:∀e∈l,OwnD w e.E e.k e.v e.L e.ds
 low:∀e∈l,∀b,Blk e.v e.L b→N≤b
 sep:l.Pairwise (fun e f=>∀b,Blk e.v e.L b→¬Blk f.v f.L b)
section
variable {N:Nat} {w w':World} {l:List Ent}
theorem Ents.nil (N:Nat) (w:World):Ents N w []:=⟨(fun _ h=>(by cases h)),(fun _ h=>(by cases h)),List.Pairwise.nil⟩
theorem Ents.keep (h:Ents N w l) (hs:w.heap.size≤w'.heap.size) (hb:∀e∈l,∀b,Blk e.v e.L b→w'.heap[b]?=w.heap[b]?):Ents N w' l :=
 ⟨fun e he=>(h.own e he).keep hs (hb e he),h.low,h.sep⟩
theorem Ents.bel (h:Ents N w l) (hb:Bel w w'):Ents N w' l:=h.keep hb.size fun e he b hm=>Below.block hb b ((h.own e he).lt b hm)
theorem Ents.far (h:Ents N w l) {b:Nat} (hb:b<N) (o:Nat) (u:Value):Ents N (w.setCell ⟨b,o,none⟩ u) l:=by
 refine h.keep (by simp) fun e he x hx=>?_
 have hn:b≠x:=by have:=h.low e he x hx;omega
 unfold World.setCell
 split
 all_goals
  show (w.heap.modify b _)[x]?=_
  rw[Array.getElem?_modify,if_neg hn]
theorem Ents.snoc (h:Ents N w l) (hb:Bel w w') {e:Ent} (ho:OwnD w' e.E e.k e.v e.L e.ds) (hN:N≤w.heap.size) (hn:∀b,Blk e.v e.L b→w.heap.size≤b):Ents N w' (l++[e]):=by
 have h':=h.bel hb
 refine⟨fun f hf=>?_,fun f hf=>?_,List.pairwise_append.2 ⟨h.sep,List.pairwise_singleton _ _,fun f hf g hg b hb hc=>?_⟩⟩
 ·
  rcases List.mem_append.1 hf with hf | hf
  ·
   exact h'.own f hf
  ·
   rw[List.mem_singleton.1 hf];exact ho
 ·
  rcases List.mem_append.1 hf with hf | hf
  ·
   exact h.low f hf
  ·
   rw[List.mem_singleton.1 hf];exact fun b hb=>Nat.le_trans hN (hn b hb)
 ·
  rw[List.mem_singleton.1 hg]at hc
  have h1:=(h.own f hf).lt b hb
  have h2:=hn b hc
  omega
theorem Ents.grow {e e':Ent} (h:Ents N w (l++[e])) {wm:World} (hm:Bel w wm) (hg:wm.grownBy w' e.v.ownBlock) (hN:N≤w.heap.size) (ho:OwnD w' e'.E e'.k e'.v e'.L e'.ds) (hn:∀b,Blk e'.v e'.L b→Blk e.v e.L b∨w.heap.size≤b):Ents N w' (l++[e']):=by
 have hp:=List.pairwise_append.1 h.sep
 have low:∀b,Blk e'.v e'.L b→N≤b:=fun b hb=>(hn b hb).elim (fun q=>h.low e (by simp) b q) (fun q=>Nat.le_trans hN q)
 have sep:∀f∈l,∀b,Blk f.v f.L b→¬Blk e.v e.L b:=fun f hf=>hp.2.2 f hf e (by simp)
 refine⟨fun f hf=>?_,fun f hf=>?_,List.pairwise_append.2 ⟨hp.1,List.pairwise_singleton _ _,fun f hf g hg b hb hc=>?_⟩⟩
 ·
  rcases List.mem_append.1 hf with hf | hf
  ·
   refine (h.own f (by simp[hf])).keep (Nat.le_trans hm.size hg.size) fun b hb=>?_
   have hl:=(h.own f (by simp[hf])).lt b hb
   exact (hg.block b (Nat.lt_of_lt_of_le hl hm.size) (fun q=>sep f hf b hb (Or.inl q.symm))).trans (Below.block hm b hl)
  ·
   rw[List.mem_singleton.1 hf];exact ho
 ·
  rcases List.mem_append.1 hf with hf | hf
  ·
   exact h.low f (by simp[hf])
  ·
   rw[List.mem_singleton.1 hf];exact low
 ·
  rw[List.mem_singleton.1 hg]at hc
  rcases hn b hc with q | q
  ·
   exact sep f hf b hb q
  ·
   have:=(h.own f (by simp[hf])).lt b hb
   omega
theorem Ents.at (h:Ents N w l) {i:Nat} {e:Ent} (he:l[i]?=some e):OwnD w e.E e.k e.v e.L e.ds:=h.own e (List.mem_of_getElem? he)
end
end Go.Proofs.YtehcjlkgfgpjnaaGreatDoor
namespace Go.Proofs.YtehcjlkgfgpjnaaGreatDoor
set_option linter.unusedVariables false
set_option linter.unusedSimpArgs false
set_option maxRecDepth 100000
open Go.RowKit
theorem set_block {w:World} {b b':Nat} (o:Nat) (u:Value) (hn:b'≠b):(w.setCell ⟨b',o,none⟩ u).heap[b]?=w.heap[b]?:=by
 unfold World.setCell
 split
 all_goals
  show (w.heap.modify b' _)[b]?=_
  rw[Array.getElem?_modify,if_neg hn]
def SB (w:World) (b:Nat) (v0 v1 v2 v3 v4 v5 v6 v7 v8 v9 v10 v11 v12:Value):Prop:=b<w.heap.size∧(∀o,w.frozen? ⟨b,o,none⟩=false)∧w.cell? ⟨b,0,none⟩=some v0∧w.cell? ⟨b,1,none⟩=some v1∧w.cell? ⟨b,2,none⟩=some v2∧w.cell? ⟨b,3,none⟩=some v3∧w.cell? ⟨b,4,none⟩=some v4∧w.cell? ⟨b,5,none⟩=some v5∧w.cell? ⟨b,6,none⟩=some v6∧w.cell? ⟨b,7,none⟩=some v7∧w.cell? ⟨b,8,none⟩=some v8∧w.cell? ⟨b,9,none⟩=some v9∧w.cell? ⟨b,10,none⟩=some v10∧w.cell? ⟨b,11,none⟩=some v11∧w.cell? ⟨b,12,none⟩=some v12
section
variable {w w':World} {b:Nat} {v0 v1 v2 v3 v4 v5 v6 v7 v8 v9 v10 v11 v12:Value}
theorem SB.block (h:SB w b v0 v1 v2 v3 v4 v5 v6 v7 v8 v9 v10 v11 v12) (hs:w.heap.size≤w'.heap.size) (hb:w'.heap[b]?=w.heap[b]?):SB w' b v0 v1 v2 v3 v4 v5 v6 v7 v8 v9 v10 v11 v12:=by
 obtain⟨l,f,c0,c1,c2,c3,c4,c5,c6,c7,c8,c9,c10,c11,c12⟩:=h
 have e:∀o,w'.cell? ⟨b,o,none⟩=w.cell? ⟨b,o,none⟩:=fun o=>World.cell?_of_block hb
 exact⟨by omega,fun o=>(World.frozen?_of_block hb).trans (f o),(e 0).trans c0,(e 1).trans c1,(e 2).trans c2,(e 3).trans c3,(e 4).trans c4,(e 5).trans c5,(e 6).trans c6,(e 7).trans c7,(e 8).trans c8,(e 9).trans c9,(e 10).trans c10,(e 11).trans c11,(e 12).trans c12⟩
theorem SB.on (h:SB w b v0 v1 v2 v3 v4 v5 v6 v7 v8 v9 v10 v11 v12) (k:Bel w w'):SB w' b v0 v1 v2 v3 v4 v5 v6 v7 v8 v9 v10 v11 v12:=h.block k.size (Below.block k b h.1)
theorem SB.new (w:World) (t:TypeId):SB (w.alloc (.cells #[v0,v1,v2,v3,v4,v5,v6,v7,v8,v9,v10,v11,v12] t)) w.heap.size v0 v1 v2 v3 v4 v5 v6 v7 v8 v9 v10 v11 v12 :=
 ⟨by simp,fun o=>by simp,by simp,by simp,by simp,by simp,by simp,by simp,by simp,by simp,by simp,by simp,by simp,by simp,by simp⟩
theorem SB.far (h:SB w b v0 v1 v2 v3 v4 v5 v6 v7 v8 v9 v10 v11 v12) {b':Nat} (o:Nat) (u:Value) (hn:b'≠b):SB (w.setCell ⟨b',o,none⟩ u) b v0 v1 v2 v3 v4 v5 v6 v7 v8 v9 v10 v11 v12 :=
 h.block (by simp) (set_block o u hn)
theorem SB.put6 (h:SB w b v0 v1 v2 v3 v4 v5 v6 v7 v8 v9 v10 v11 v12) (u:Value):SB (w.setCell ⟨b,6,none⟩ u) b v0 v1 v2 v3 v4 v5 u v7 v8 v9 v10 v11 v12:=by
 obtain⟨l,f,c0,c1,c2,c3,c4,c5,c6,c7,c8,c9,c10,c11,c12⟩:=h
 exact⟨by simpa using l,fun o=>by simp[f],by simp[c0,go_sem],by simp[c1,go_sem],by simp[c2,go_sem],by simp[c3,go_sem],by simp[c4,go_sem],by simp[c5,go_sem],by simp[c6,go_sem],by simp[c7,go_sem],by simp[c8,go_sem],by simp[c9,go_sem],by simp[c10,go_sem],by simp[c11,go_sem],by simp[c12,go_sem]⟩
theorem SB.there (h:SB w b v0 v1 v2 v3 v4 v5 v6 v7 v8 v9 v10 v11 v12):w.there b 0 13:=by
 obtain⟨l,f,c0,c1,c2,c3,c4,c5,c6,c7,c8,c9,c10,c11,c12⟩:=h
 intro j hj
 rcases (show j=0∨j=1∨j=2∨j=3∨j=4∨j=5∨j=6∨j=7∨j=8∨j=9∨j=10∨j=11∨j=12 by omega)with rfl | rfl | rfl | rfl | rfl | rfl | rfl | rfl | rfl | rfl | rfl | rfl | rfl
 all_goals exact⟨by simp[c0,c1,c2,c3,c4,c5,c6,c7,c8,c9,c10,c11,c12],f _⟩
end
end Go.Proofs.YtehcjlkgfgpjnaaGreatDoor
namespace Go.Proofs.YtehcjlkgfgpjnaaGreatDoor
set_option linter.unusedVariables false
set_option linter.unusedSimpArgs false
set_option maxRecDepth 100000
open Go.RowKit
structure ClS (w:World) (N:Nat) (wx:World) (b:Nat) (v0 v1 v2 v3 v4 v5 v6 v7 v8 v9 v10 v11 v12:Value) (l:List Ent):Prop where
 box:SB wx b v0 v1 v2 v3 v4 v5 v6 v7 v8 v9 v10 v11 v12
 ents:Ents N wx l
 bel:Bel w wx
 low:w.heap.size≤b∧b<N∧N≤wx.heap.size
section
variable {w wx wy:World} {N b:Nat} {v0 v1 v2 v3 v4 v5 v6 v7 v8 v9 v10 v11 v12:Value} {l:List Ent}
theorem ClS.on (h:ClS w N wx b v0 v1 v2 v3 v4 v5 v6 v7 v8 v9 v10 v11 v12 l) (k:Bel wx wy):ClS w N wy b v0 v1 v2 v3 v4 v5 v6 v7 v8 v9 v10 v11 v12 l:=⟨h.box.on k,h.ents.bel k,h.bel.trans k,h.low.1,h.low.2.1,Nat.le_trans h.low.2.2 k.size⟩
theorem ClS.next (h:ClS w N wx b v0 v1 v2 v3 v4 v5 v6 v7 v8 v9 v10 v11 v12 l) (hb:Bel wx wy) {E:TypeId} {k:Nat} {u:Value} {L:List Nat} {ds:List (List Dat)} (ho:OwnD wy E k u L ds) (hn:∀x,Blk u L x→wx.heap.size≤x) (o:Nat) {u0 u1 u2 u3 u4 u5 u6 u7 u8 u9 u10 u11 u12:Value} (hbx:SB (wy.setCell ⟨b,o,none⟩ u) b u0 u1 u2 u3 u4 u5 u6 u7 u8 u9 u10 u11 u12):ClS w N (wy.setCell ⟨b,o,none⟩ u) b u0 u1 u2 u3 u4 u5 u6 u7 u8 u9 u10 u11 u12 (l++[⟨E,k,u,L,ds⟩]):=by
 refine⟨hbx,(h.ents.snoc hb (e:=⟨E,k,u,L,ds⟩) ho h.low.2.2 hn).far h.low.2.1 o u,Below.setCell (h.bel.trans hb) h.low.1 u,h.low.1,h.low.2.1,?_⟩
 have h1:=hb.size
 have h2:=h.low.2.2
 simp only[World.size_setCell]
 omega
end
end Go.Proofs.YtehcjlkgfgpjnaaGreatDoor
namespace Go.Proofs.YtehcjlkgfgpjnaaGreatDoor
set_option linter.unusedVariables false
set_option linter.unusedSimpArgs false
set_option maxRecDepth 100000
open Go.RowKit
def OB (w:World) (b:Nat) (v0 v1 v2 v3 v4:Value):Prop:=b<w.heap.size∧(∀o,w.frozen? ⟨b,o,none⟩=false)∧w.cell? ⟨b,0,none⟩=some v0∧w.cell? ⟨b,1,none⟩=some v1∧w.cell? ⟨b,2,none⟩=some v2∧w.cell? ⟨b,3,none⟩=some v3∧w.cell? ⟨b,4,none⟩=some v4
section
variable {w w':World} {b:Nat} {v0 v1 v2 v3 v4:Value}
theorem OB.block (h:OB w b v0 v1 v2 v3 v4) (hs:w.heap.size≤w'.heap.size) (hb:w'.heap[b]?=w.heap[b]?):OB w' b v0 v1 v2 v3 v4:=by
 obtain⟨l,f,c0,c1,c2,c3,c4⟩:=h
 have e:∀o,w'.cell? ⟨b,o,none⟩=w.cell? ⟨b,o,none⟩:=fun o=>World.cell?_of_block hb
 exact⟨by omega,fun o=>(World.frozen?_of_block hb).trans (f o),(e 0).trans c0,(e 1).trans c1,(e 2).trans c2,(e 3).trans c3,(e 4).trans c4⟩
theorem OB.on (h:OB w b v0 v1 v2 v3 v4) (k:Bel w w'):OB w' b v0 v1 v2 v3 v4:=h.block k.size (Below.block k b h.1)
theorem OB.new (w:World) (t:TypeId):OB (w.alloc (.cells #[v0,v1,v2,v3,v4] t)) w.heap.size v0 v1 v2 v3 v4 :=
 ⟨by simp,fun o=>by simp,by simp,by simp,by simp,by simp,by simp⟩
end
structure ClF (w:World) (N:Nat) (wx:World) (b q r:Nat) (v0 v1 v2 v3 v4 v5 v6 v7 v8 v9 v10 v11 v12:Value) (s0 s1 s2 s3 s4 s5 s6 s7 s8 s9 s10 s11 s12:Value) (l:List Ent):Prop where
 cl:ClS w N wx b v0 v1 v2 v3 v4 v5 v6 v7 v8 v9 v10 v11 v12 l
 sb:SB wx q s0 s1 s2 s3 s4 s5 s6 s7 s8 s9 s10 s11 s12
 rb:SB wx r (.slice none 0 0) (.slice none 0 0) (.slice none 0 0) (.slice none 0 0) (.string ByteArray.empty) (.int .i64 0) (.slice none 0 0) (.slice none 0 0) (.slice none 0 0) (.bool false) (.int .i64 0) (.int .i64 0) (.int .i64 0)
 ne:q≠b∧r≠b∧q<N∧r<N∧w.heap.size≤r
section
variable {w wx wy:World} {N b q r:Nat} {v0 v1 v2 v3 v4 v5 v6 v7 v8 v9 v10 v11 v12 s0 s1 s2 s3 s4 s5 s6 s7 s8 s9 s10 s11 s12:Value} {l:List Ent} {e:Ent}
theorem ClF.on (h:ClF w N wx b q r v0 v1 v2 v3 v4 v5 v6 v7 v8 v9 v10 v11 v12 s0 s1 s2 s3 s4 s5 s6 s7 s8 s9 s10 s11 s12 l) (k:Bel wx wy):ClF w N wy b q r v0 v1 v2 v3 v4 v5 v6 v7 v8 v9 v10 v11 v12 s0 s1 s2 s3 s4 s5 s6 s7 s8 s9 s10 s11 s12 l:=⟨h.cl.on k,h.sb.on k,h.rb.on k,h.ne⟩
theorem ClF.next (h:ClF w N wx b q r v0 v1 v2 v3 v4 v5 v6 v7 v8 v9 v10 v11 v12 s0 s1 s2 s3 s4 s5 s6 s7 s8 s9 s10 s11 s12 l) (hb:Bel wx wy) {E:TypeId} {k:Nat} {u:Value} {L:List Nat} {ds:List (List Dat)} (ho:OwnD wy E k u L ds) (hn:∀x,Blk u L x→wx.heap.size≤x) (o:Nat) {u0 u1 u2 u3 u4 u5 u6 u7 u8 u9 u10 u11 u12:Value} (hbx:SB (wy.setCell ⟨b,o,none⟩ u) b u0 u1 u2 u3 u4 u5 u6 u7 u8 u9 u10 u11 u12):ClF w N (wy.setCell ⟨b,o,none⟩ u) b q r u0 u1 u2 u3 u4 u5 u6 u7 u8 u9 u10 u11 u12 s0 s1 s2 s3 s4 s5 s6 s7 s8 s9 s10 s11 s12 (l++[⟨E,k,u,L,ds⟩]) :=
 ⟨h.cl.next hb ho hn o hbx,(h.sb.on hb).far o u (fun e=>h.ne.1 e.symm),(h.rb.on hb).far o u (fun e=>h.ne.2.1 e.symm),h.ne⟩
theorem ClF.grow (h:ClF w N wx b q r v0 v1 v2 v3 v4 v5 v6 v7 v8 v9 v10 v11 v12 s0 s1 s2 s3 s4 s5 s6 s7 s8 s9 s10 s11 s12 (l++[e])) {wm:World} (hm:Bel wx wm) (hg:wm.grownBy wy e.v.ownBlock) {e':Ent} (ho:OwnD wy e'.E e'.k e'.v e'.L e'.ds) (hn:∀x,Blk e'.v e'.L x→Blk e.v e.L x∨wx.heap.size≤x) :
  SB wy b v0 v1 v2 v3 v4 v5 v6 v7 v8 v9 v10 v11 v12∧∀(o:Nat) (u:Value) {u0 u1 u2 u3 u4 u5 u6 u7 u8 u9 u10 u11 u12:Value},SB (wy.setCell ⟨b,o,none⟩ u) b u0 u1 u2 u3 u4 u5 u6 u7 u8 u9 u10 u11 u12→ClF w N (wy.setCell ⟨b,o,none⟩ u) b q r u0 u1 u2 u3 u4 u5 u6 u7 u8 u9 u10 u11 u12 s0 s1 s2 s3 s4 s5 s6 s7 s8 s9 s10 s11 s12 (l++[e']):=by
 have hlow:∀k,e.v.ownBlock=some k→N≤k:=fun k hk=>h.cl.ents.low e (by simp) k (Or.inl hk)
 have hN:=h.cl.low
 have hs:=hm.size
 have hgs:=hg.size
 have old:∀k,k<N→k<wx.heap.size→wy.heap[k]?=wx.heap[k]?:=fun k hk hl=>(hg.block k (by omega) (fun q=>by have:=hlow k q.symm;omega)).trans (Below.block hm k hl)
 have hbl:=h.cl.box.1
 have hql:=h.sb.1
 have hrl:=h.rb.1
 have B9:=h.cl.box.block (by omega) (old b hN.2.1 hbl)
 have hB:Bel w wy:=⟨hg.os.trans (hm.os.trans h.cl.bel.os),hg.tape.trans (hm.tape.trans h.cl.bel.tape),hg.output.trans (hm.output.trans h.cl.bel.output),by have:=h.cl.bel.size;omega,fun k hk=>(old k (by omega) (by omega)).trans (Below.block h.cl.bel k hk)⟩
 refine⟨B9,fun o u _ _ _ _ _ _ _ _ _ _ _ _ _ hbx=>⟨⟨hbx,(h.cl.ents.grow hm hg hN.2.2 ho hn).far hN.2.1 o u,Below.setCell hB hN.1 u,hN.1,hN.2.1,by simp only[World.size_setCell];omega⟩,(h.sb.block (by omega) (old q h.ne.2.2.1 hql)).far o u (fun e=>h.ne.1 e.symm),(h.rb.block (by omega) (old r h.ne.2.2.2.1 hrl)).far o u (fun e=>h.ne.2.1 e.symm),h.ne⟩⟩
end
def TObject.its:TObject→List TValue | .mk _ _ _ i _=>i
end Go.Proofs.YtehcjlkgfgpjnaaGreatDoor
namespace Go.Proofs.YtehcjlkgfgpjnaaGreatDoor
set_option linter.unusedVariables false
set_option linter.unusedSimpArgs false
set_option maxRecDepth 100000
open Go.RowKit
def KpN (N:Nat) (wa wb:World):Prop:=wa.heap.size≤wb.heap.size∧∀k,N≤k→k<wa.heap.size→wb.heap[k]?=wa.heap[k]?
theorem kpn_bel {N:Nat} {wa wb:World} (h:Bel wa wb):KpN N wa wb:=⟨h.size,fun k _ hl=>Below.block h k hl⟩
theorem KpN.obj {N g:Nat} {wa wb:World} {o:Obj} (h:KpN N wa wb) (hN:N≤g) (hg:wa.heap[g]?=some o):wb.heap[g]?=some o:=(h.2 g hN (Array.getElem?_eq_some_iff.1 hg).1).trans hg
theorem grown_bel {wm wq wz:World} {r:Option Nat} (h:wm.grownBy wq r) (k:Bel wq wz):wm.grownBy wz r :=
 ⟨k.os.trans h.os,k.tape.trans h.tape,k.output.trans h.output,Nat.le_trans h.size k.size,fun i hi hr=>(Below.block k i (Nat.lt_of_lt_of_le hi h.size)).trans (h.block i hi hr)⟩
end Go.Proofs.YtehcjlkgfgpjnaaGreatDoor
