/- What a value stands for in a store: plain. -/
import Derived.Test.YtehcjlkgfgpjnaaGreatDoorPS2
import Derived.Test.YtehcjlkgfgpjnaaGreatDoorPS3z
import Derived.Test.YtehcjlkgfgpjnaaGreatDoorPShelf
import Derived.Test.YtehcjlkgfgpjnaaGreatDoorPB
import Derived.Deep.Cut
import Derived.Test.YtehcjlkgfgpjnaaGreatDoorPS8
import Derived.Test.YtehcjlkgfgpjnaaGreatDoorPS9
namespace Go.Proofs.YtehcjlkgfgpjnaaGreatDoor
set_option linter.unusedVariables false
set_option linter.unusedSimpArgs false
set_option maxRecDepth 100000
open Go.RowKit
def zeroV:VVal:=⟨0,0,0,ByteArray.empty,0,0⟩
def objAt (s:TStore) (n:Int):TObject:=s.objects.getD n.toNat (.mk 0 0 0 [] [])
def rdV (s:TStore) (v:VVal):VVal × Int :=
 if v.k=13∨v.k=16 then (vAt (objAt s v.n).items v.i.toNat,0)
 else if v.k=14 then (vAt s.globals v.i.toNat,0)
 else if v.k=15 then (if ((objAt s v.n).items.length:Int)≤v.i then (zeroV,205) else (vAt (objAt s v.n).items v.i.toNat,0))
 else if v.k=17 then (vAt (objAt s (vAt (objAt s v.n).items 0).n).items (1+idxV (objAt s (vAt (objAt s v.n).items 0).n).keys (vAt (objAt s v.n).items 1)).toNat,0)
 else if v.k=18 then (if v.i=1 then⟨2,0,0,s.subject,0,0⟩ else⟨1,s.position,0,ByteArray.empty,0,0⟩,0)
 else (v,0)
theorem objAt_get {s:TStore} {m:Nat} (h:m<s.objects.length):objAt s (m:Int)=s.objects[m]:=by
 unfold objAt;rw[Int.toNat_natCast];simp[List.getD,h]
theorem vAt_get {l:List TValue} {m:Nat} (h:m<l.length):vAt l m=l[m].v:=by unfold vAt;simp[List.getD,h]
theorem inB_well {s:TStore} {v:VVal} (h:inB s v=true):wellB v=true:=by
 cases hw:wellB v
 ·
  rw[inB_bad hw]at h;cases h
 ·
  rfl
theorem in_obj {s:TStore} {k n i:Int} {t:ByteArray} {lo hi:Int} (h:inB s ⟨k,n,i,t,lo,hi⟩=true) (hk:k=5∨k=13∨k=15∨k=16∨k=17) :
  ∃m:Nat,n=m∧∃hm:m<s.objects.length,s.objects[m].kind=kindI k∧(k=13∨k=16→i<(s.objects[m].items.length:Int)):=by
 have hw:=inB_well h
 have hn:=well_n hw (by omega)
 obtain⟨m,rfl⟩:=Int.eq_ofNat_of_zero_le hn
 have hk0:kindI k≠0:=by rcases hk with rfl | rfl | rfl | rfl | rfl <;> decide
 rw[inB_obj hw hk0]at h
 rcases Nat.lt_or_ge m s.objects.length with hlt | hge
 ·
  rw[objIn_yes (o:=s.objects[m]) (by simpa using hlt) (by simp)]at h
  rw[Bool.and_eq_true,decide_eq_true_eq]at h
  refine⟨m,rfl,hlt,h.1,fun hk=>?_⟩
  have h2:=h.2
  rw[if_pos hk]at h2
  simpa using h2
 ·
  rw[objIn_no (by simpa using hge)]at h;cases h
theorem in_glo {s:TStore} {n i:Int} {t:ByteArray} {lo hi:Int} (h:inB s ⟨14,n,i,t,lo,hi⟩=true):i<(s.globals.length:Int):=by
 have hw:=inB_well h
 unfold inB at h
 rw[hw,if_neg (show ¬(kindI 14≠0) by decide)]at h
 simpa using h
theorem val_obj_of {s:TStore} (h:validB s=true) (m:Nat) (hm:m<s.objects.length):objB s s.objects[m]=true:=by
 cases ho:objB s s.objects[m]
 ·
  rw[val_obj m hm ho]at h;cases h
 ·
  rfl
theorem entry_of {s:TStore} (h:validB s=true) {m:Nat} (hm:m<s.objects.length) (hk:s.objects[m].kind=8) :
  ∃tag ser:Int,∃a b:TValue,s.objects[m]=.mk 8 tag ser [a,b] []∧a.v.k=5∧inB s a.v=true∧inB s b.v=true:=by
 have ho:=val_obj_of h m hm
 obtain⟨kd,tag,ser,its,keys,e⟩:∃kd tag ser its keys,s.objects[m]=.mk kd tag ser its keys:=by cases s.objects[m];exact⟨_,_,_,_,_,rfl⟩
 rw[e]at hk ho
 obtain rfl:kd=8:=hk
 rw[objB_8]at ho
 simp only[Bool.and_eq_true,decide_eq_true_eq]at ho
 obtain⟨-,⟨⟨⟨⟨⟨-,hkl⟩,hil⟩,h5⟩,hin0⟩,hd⟩⟩:=ho
 obtain rfl:keys=[]:=List.length_eq_zero_iff.1 hkl
 obtain⟨a,b,rfl⟩:∃a b,its=[a,b]:=by
  match its,hil with
  | [a,b],_=>exact⟨a,b,rfl⟩
 refine⟨tag,ser,a,b,e,h5,hin0,?_⟩
 unfold dataB at hd
 rw[Bool.and_eq_true]at hd
 exact hd.2
theorem table_of {s:TStore} (h:validB s=true) {m:Nat} (hm:m<s.objects.length) (hk:s.objects[m].kind=3) :
  ∃tag ser its keys,s.objects[m]=.mk 3 tag ser its keys∧its.length=keys.length+1:=by
 have ho:=val_obj_of h m hm
 obtain⟨kd,tag,ser,its,keys,e⟩:∃kd tag ser its keys,s.objects[m]=.mk kd tag ser its keys:=by cases s.objects[m];exact⟨_,_,_,_,_,rfl⟩
 rw[e]at hk ho
 obtain rfl:kd=3:=hk
 rw[objB_3]at ho
 simp only[Bool.and_eq_true,decide_eq_true_eq]at ho
 exact⟨tag,ser,its,keys,e,ho.2.1.1.1.2⟩
theorem idxV_lt (l:List TValue) (x:VVal) : -1≤idxV l x∧idxV l x<(l.length:Int)+0∨idxV l x = -1:=by
 unfold idxV
 cases h:l.findIdx? (fun y=>y.v.eqB x)with
 | none=>exact Or.inr rfl
 | some k =>
  have:=(List.findIdx?_eq_some_iff_getElem.1 h).1
  left;simp only;omega
theorem idxV_bd (l:List TValue) (x:VVal):∃d:Nat,1+idxV l x=(d:Int)∧d≤l.length:=by
 rcases idxV_lt l x with h | h
 ·
  exact⟨(1+idxV l x).toNat,by omega,by omega⟩
 ·
  exact⟨0,by omega,by omega⟩
abbrev RdC (f:FuncId) (s:TStore) (v:VVal):Prop:=∀(S:Nat→Prop) (q:Nat) (w:World),StoreAt w S q s→v.Ok →
 Calls Tryz.prog f #[.pointer (some ⟨q,0,none⟩),.agg #[.int .i64 v.k,.int .i64 v.n,.int .i64 v.i,.string v.t,.int .i64 v.lo,.int .i64 v.hi]] w fun e w' =>
  e=.returned (.tuple #[(rdV s v).1.val,.int .i64 (rdV s v).2])∧Bel w w'
end Go.Proofs.YtehcjlkgfgpjnaaGreatDoor
namespace Go.Proofs.YtehcjlkgfgpjnaaGreatDoor
set_option linter.unusedVariables false
set_option linter.unusedSimpArgs false
set_option maxRecDepth 100000
open Go.RowKit
def Z6 (w:World) (b:Nat):Prop:=w.cell? ⟨b,0,none⟩=some (.int .i64 0)∧w.cell? ⟨b,1,none⟩=some (.int .i64 0)∧w.cell? ⟨b,2,none⟩=some (.int .i64 0)∧w.cell? ⟨b,3,none⟩=some (.string ByteArray.empty)∧w.cell? ⟨b,4,none⟩=some (.int .i64 0)∧w.cell? ⟨b,5,none⟩=some (.int .i64 0)∧(∀o,w.frozen? ⟨b,o,none⟩=false)∧b<w.heap.size
theorem Z6.on {w w':World} {b:Nat} (h:Z6 w b) (hb:Bel w w'):Z6 w' b:=by
 obtain⟨c0,c1,c2,c3,c4,c5,f,l⟩:=h
 exact⟨(hb.box b l 0).trans c0,(hb.box b l 1).trans c1,(hb.box b l 2).trans c2,(hb.box b l 3).trans c3,(hb.box b l 4).trans c4,(hb.box b l 5).trans c5,fun o=>(hb.boxf b l o).trans (f o),Nat.lt_of_lt_of_le l hb.size⟩
theorem Z6.new {w:World} {t:TypeId}:Z6 (w.alloc (.cells #[.int .i64 0,.int .i64 0,.int .i64 0,.string ByteArray.empty,.int .i64 0,.int .i64 0] t)) w.heap.size :=
 ⟨by simp,by simp,by simp,by simp,by simp,by simp,fun o=>by simp,by simp⟩
def put6 (w:World) (b:Nat) (x0 x1 x2 x3 x4 x5:Value):World:=(((((w.setCell ⟨b,0,none⟩ x0).setCell ⟨b,1,none⟩ x1).setCell ⟨b,2,none⟩ x2).setCell ⟨b,3,none⟩ x3).setCell ⟨b,4,none⟩ x4).setCell ⟨b,5,none⟩ x5
theorem Z6.put {w:World} {b:Nat} (h:Z6 w b) (x0 x1 x2 x3 x4 x5:Value) :
  (put6 w b x0 x1 x2 x3 x4 x5).cell? ⟨b,0,none⟩=some x0∧(put6 w b x0 x1 x2 x3 x4 x5).cell? ⟨b,1,none⟩=some x1∧(put6 w b x0 x1 x2 x3 x4 x5).cell? ⟨b,2,none⟩=some x2∧(put6 w b x0 x1 x2 x3 x4 x5).cell? ⟨b,3,none⟩=some x3∧(put6 w b x0 x1 x2 x3 x4 x5).cell? ⟨b,4,none⟩=some x4∧(put6 w b x0 x1 x2 x3 x4 x5).cell? ⟨b,5,none⟩=some x5:=by
 obtain⟨c0,c1,c2,c3,c4,c5,f,l⟩:=h
 have n:∀i j:Nat,i≠j→(⟨b,i,none⟩:Addr)≠⟨b,j,none⟩:=fun i j h e=>h (by injection e)
 unfold put6
 refine⟨?_,?_,?_,?_,?_,?_⟩
 ·
  rw[World.cell?_setCell_other (h:=n 5 0 (by decide)),World.cell?_setCell_other (h:=n 4 0 (by decide)),World.cell?_setCell_other (h:=n 3 0 (by decide)),World.cell?_setCell_other (h:=n 2 0 (by decide)),World.cell?_setCell_other (h:=n 1 0 (by decide)),World.cell?_setCell_same (h:=c0)]
 ·
  rw[World.cell?_setCell_other (h:=n 5 1 (by decide)),World.cell?_setCell_other (h:=n 4 1 (by decide)),World.cell?_setCell_other (h:=n 3 1 (by decide)),World.cell?_setCell_other (h:=n 2 1 (by decide)),World.cell?_setCell_same (u:=.int .i64 0) (h:=by rw[World.cell?_setCell_other (h:=n 0 1 (by decide))];exact c1)]
 ·
  rw[World.cell?_setCell_other (h:=n 5 2 (by decide)),World.cell?_setCell_other (h:=n 4 2 (by decide)),World.cell?_setCell_other (h:=n 3 2 (by decide)),World.cell?_setCell_same (u:=.int .i64 0) (h:=by rw[World.cell?_setCell_other (h:=n 1 2 (by decide)),World.cell?_setCell_other (h:=n 0 2 (by decide))];exact c2)]
 ·
  rw[World.cell?_setCell_other (h:=n 5 3 (by decide)),World.cell?_setCell_other (h:=n 4 3 (by decide)),World.cell?_setCell_same (u:=.string ByteArray.empty) (h:=by rw[World.cell?_setCell_other (h:=n 2 3 (by decide)),World.cell?_setCell_other (h:=n 1 3 (by decide)),World.cell?_setCell_other (h:=n 0 3 (by decide))];exact c3)]
 ·
  rw[World.cell?_setCell_other (h:=n 5 4 (by decide)),World.cell?_setCell_same (u:=.int .i64 0) (h:=by rw[World.cell?_setCell_other (h:=n 3 4 (by decide)),World.cell?_setCell_other (h:=n 2 4 (by decide)),World.cell?_setCell_other (h:=n 1 4 (by decide)),World.cell?_setCell_other (h:=n 0 4 (by decide))];exact c4)]
 ·
  rw[World.cell?_setCell_same (u:=.int .i64 0) (h:=by rw[World.cell?_setCell_other (h:=n 4 5 (by decide)),World.cell?_setCell_other (h:=n 3 5 (by decide)),World.cell?_setCell_other (h:=n 2 5 (by decide)),World.cell?_setCell_other (h:=n 1 5 (by decide)),World.cell?_setCell_other (h:=n 0 5 (by decide))];exact c5)]
theorem Bel.put6 {w0 w:World} (h:Bel w0 w) {b:Nat} (hb:w0.heap.size≤b) (x0 x1 x2 x3 x4 x5:Value):Bel w0 (put6 w b x0 x1 x2 x3 x4 x5) :=
 Bel.set (Bel.set (Bel.set (Bel.set (Bel.set (Bel.set h hb x0) hb x1) hb x2) hb x3) hb x4) hb x5
theorem gen_ret6 {P:Program} {fn:Func} {Q:Ending→World→Prop} {ex:Exit} {a:Act} {w:World} {b:Nat} {x0 x1 x2 x3 x4 x5:Value} (h:Z6 w b)
  (H:∀w',w'.cell? ⟨b,0,none⟩=some x0→w'.cell? ⟨b,1,none⟩=some x1→w'.cell? ⟨b,2,none⟩=some x2→w'.cell? ⟨b,3,none⟩=some x3→w'.cell? ⟨b,4,none⟩=some x4→w'.cell? ⟨b,5,none⟩=some x5→(∀w0,Bel w0 w→w0.heap.size≤b→Bel w0 w')→bodyPost P fn Q ex a w') :
  bodyPost P fn Q ex a ((((((w.setCell ⟨b,0,none⟩ x0).setCell ⟨b,1,none⟩ x1).setCell ⟨b,2,none⟩ x2).setCell ⟨b,3,none⟩ x3).setCell ⟨b,4,none⟩ x4).setCell ⟨b,5,none⟩ x5):=by
 obtain⟨d0,d1,d2,d3,d4,d5⟩:=h.put x0 x1 x2 x3 x4 x5
 exact H _ d0 d1 d2 d3 d4 d5 fun w0 h0 hb=>Bel.put6 h0 hb x0 x1 x2 x3 x4 x5
end Go.Proofs.YtehcjlkgfgpjnaaGreatDoor
