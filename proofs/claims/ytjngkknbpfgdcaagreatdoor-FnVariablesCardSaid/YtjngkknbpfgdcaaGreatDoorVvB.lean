import Derived.Test.YtjngkknbpfgdcaaGreatDoorVva
set_option linter.unusedVariables false
set_option linter.unusedSimpArgs false
set_option maxRecDepth 100000
set_option maxHeartbeats 8000000
namespace Go.Proofs.YtjngkknbpfgdcaaGreatDoor
open Go.ChangeShapes Go.WideShapes Go.ChangeAt Go.RowKit
open Go.ChangeMaps (open_string shut_string)
theorem own:ownKnob Tryz.prog.godebug=none:=by kernel_rfl
theorem laidOut:laidOutB Tryz.prog=true:=by kernel_rfl
def dT (n:Int):Prop:=-9223372036854775808<=n/\n<=9223372036854775807
theorem I {p:Prop} (h:p):Hid p:=h
def U (w w':World):Prop:=Below w.heap.size w w'
namespace U
theorem refl (w:World):U w w:=Below.refl _ _
theorem size {w w':World} (h:U w w'):w.heap.size<=w'.heap.size:=Below.size h
theorem trans {a b c:World} (h:U a b) (k:U b c):U a c:=Below.trans h (Below.mono k h.size)
theorem alloc {a b:World} (h:U a b) (o:Obj):U a (b.alloc o):=Below.alloc h h.size o
theorem drew {a b:World} (h:U a b):U a b.drew:=Below.drew h
theorem drewN {a b:World} (h:U a b) (n:Nat):U a (b.drewN n):=⟨h.os,h.tape,h.output,h.size,h.block⟩
theorem set {a b:World} (h:U a b) {p:Addr} (hp:a.heap.size<=p.block) (v:Value):U a (b.setCell p v):=Below.setCell h hp v
theorem facts {W w1:World} (hb:U W w1):(∀b o,b<W.heap.size->w1.cell? ⟨b,o,none⟩=W.cell? ⟨b,o,none⟩)/\(∀b o,b<W.heap.size->w1.frozen? ⟨b,o,none⟩=W.frozen? ⟨b,o,none⟩)/\W.heap.size<=w1.heap.size :=
 ⟨fun b o h=>Below.cell (p:=⟨b,o,none⟩) hb h,fun b o h=>Below.frozen (p:=⟨b,o,none⟩) hb h,hb.size⟩
theorem box {W w1:World} (hb:U W w1) (b:Nat) (h:b<W.heap.size):∀o,w1.cell? ⟨b,o,none⟩=W.cell? ⟨b,o,none⟩:=fun o=>hb.facts.1 b o h
theorem IL {W w1:World} (hb:U W w1) (b:Nat) (h:b<W.heap.size):∀o,w1.frozen? ⟨b,o,none⟩=W.frozen? ⟨b,o,none⟩:=fun o=>hb.facts.2.1 b o h
theorem lay {W w1:World} (hb:U W w1) (b:Nat) (h:b<W.heap.size:=by first | (simp;done) | (simp;omega) | omega) :
  (∀o,w1.cell? ⟨b,o,none⟩=W.cell? ⟨b,o,none⟩)/\(∀o,w1.frozen? ⟨b,o,none⟩=W.frozen? ⟨b,o,none⟩)/\b<w1.heap.size/\¬b=w1.heap.size :=
 ⟨hb.box b h,hb.IL b h,au h hb.size,fun e=>Nat.lt_irrefl _ (e▸au h hb.size)⟩
theorem sz {W w1:World} {n:Nat} (hb:U W w1) (h:W.heap.size=n:=by first | (simp only[World.size_alloc,World.size_setCell,World.size_drew,World.heap_drewN];exact rfl) | exact rfl):n<=w1.heap.size:=h▸hb.size
end U
theorem bl {w w':World} (h:U w w':=by repeat' (first | with_reducible exact U.refl _ | with_reducible assumption | with_reducible refine U.set ?_ ?_ _ | with_reducible refine U.alloc ?_ _ | with_reducible refine U.drew ?_ | with_reducible refine U.drewN ?_ _ | with_reducible refine U.trans ?_ (by with_reducible assumption) | (simp;done) | (simp;omega) | refine U.alloc ?_ _ | refine U.drew ?_ | refine U.drewN ?_ _ | refine U.set ?_ ?_ _)):U w w':=h
theorem Pd (s t:cx):s.toList=t.toList↔s=t:=by
 constructor
 ·
  intro h
  have e:∀x:cx,x.toList=x.data.toList:=fun x=>ByteArray.toList_eq x
  rw[e,e]at h
  exact ByteArray.ext (Array.toList_inj.1 h)
 ·
  rintro rfl;rfl
structure cC where
 k:Int
 n:Int
 i:Int
 t:cx
 lo:Int
 hi:Int
def cC.val (v:cC):Value:=.agg #[.int .i64 v.k,.int .i64 v.n,.int .i64 v.i,.string v.t,.int .i64 v.lo,.int .i64 v.hi]
structure cC.Ok (v:cC):Prop where
 k:dT v.k
 n:dT v.n
 i:dT v.i
 t:v.t.size<=maxLen
 lo:dT v.lo
 hi:dT v.hi
section
variable {H:Type} {enc:TypeId × Value->H} {w:World} {base:Nat} {spare:Nat->Bool} {held:Bool}
end
end Go.Proofs.YtjngkknbpfgdcaaGreatDoor
namespace Go.Proofs.YtjngkknbpfgdcaaGreatDoor
open Go.RowKit
def ft (s:cx) (i:Nat):Nat:=(s.data.toList.getD i 0).toNat
theorem lY (s:cx) (i:Nat) (h:i<s.size):(s[i]'h).toNat=ft s i:=by
 unfold ft
 have h2:i<s.data.toList.length:=bR
 rw[List.getD_eq_getElem?_getD,List.getElem?_eq_getElem h2]
 rfl
@[go_sem] theorem TY (w:World) (a:Addr) (v:Value) (h:(w.cell? a).isSome=true):(w.setCell a v).cell? a=some v:=by
 obtain⟨u,hu⟩:=Option.isSome_iff_exists.1 h
 exact World.cell?_setCell_same w a v hu
def cC.pn (a b:cC):Bool:=decide (a.k=b.k)&&decide (a.n=b.n)&&decide (a.i=b.i)&&decide (a.t=b.t)&&decide (a.lo=b.lo)&&decide (a.hi=b.hi)
theorem cC.xV (a:cC):a.pn a=true:=by simp[cC.pn]
def isRef (k:Int):Bool:=decide (13<=k)&&decide (k<=18)
theorem oU (v:cC) (w:World) :
  Calls Tryz.prog 32 #[v.val] w fun e w'=>e=.returned (.bool (isRef v.k))/\U w w':=by
 obtain⟨k,n,i,t,lo,hi⟩:=v
 simp only[cC.val]
 by_cases h1:13<=k
 ·
  have hd:decide (13<=k)=true:=aV
  go_enter Tryz.func32,Tryz.ntmps32
  go_wp2
  go_returns
  refine⟨?_,bl⟩
  simp[isRef,h1]
 ·
  have hd:decide (13<=k)=false:=aV
  go_enter Tryz.func32,Tryz.ntmps32
  go_wp2
  go_returns
  refine⟨?_,bl⟩
  simp[isRef]
  omega
theorem kB (v:cC) (w:World) :
  Calls Tryz.prog 26 #[v.val] w fun e w'=>e=.returned (.bool (isRef v.k))/\U w w':=by
 obtain⟨k,n,i,t,lo,hi⟩:=v
 simp only[cC.val]
 by_cases h1:13<=k
 ·
  have hd:decide (13<=k)=true:=aV
  go_enter Tryz.func26,Tryz.ntmps26
  go_wp2
  go_returns
  refine⟨?_,bl⟩
  simp[isRef,h1]
 ·
  have hd:decide (13<=k)=false:=aV
  go_enter Tryz.func26,Tryz.ntmps26
  go_wp2
  go_returns
  refine⟨?_,bl⟩
  simp[isRef]
  omega
def cC.zero:cC:=⟨0,0,0,ByteArray.empty,0,0⟩
def cC.ofInt (n:Int):cC:=⟨1,n,0,ByteArray.empty,0,0⟩
def cC.IM (s:cx):cC:=⟨2,0,0,s,0,0⟩
def cC.Pe (lo hi:Int):cC:=⟨3,0,0,ByteArray.empty,lo,hi⟩
def Z6 (w:World) (b:Nat):Prop:=w.cell? ⟨b,0,none⟩=some (.int .i64 0)/\w.cell? ⟨b,1,none⟩=some (.int .i64 0)/\w.cell? ⟨b,2,none⟩=some (.int .i64 0)/\w.cell? ⟨b,3,none⟩=some (.string ByteArray.empty)/\w.cell? ⟨b,4,none⟩=some (.int .i64 0)/\w.cell? ⟨b,5,none⟩=some (.int .i64 0)/\(∀o,w.frozen? ⟨b,o,none⟩=false)/\b<w.heap.size
theorem Z6.on {w w':World} {b:Nat} (h:Z6 w b) (hb:U w w'):Z6 w' b:=by
 obtain⟨c0,c1,c2,c3,c4,c5,f,l⟩:=h
 exact⟨(hb.box b l 0).trans c0,(hb.box b l 1).trans c1,(hb.box b l 2).trans c2,(hb.box b l 3).trans c3,(hb.box b l 4).trans c4,(hb.box b l 5).trans c5,fun o=>(hb.IL b l o).trans (f o),au l hb.size⟩
theorem Z6.new {w:World} {t:TypeId}:Z6 (w.alloc (.cells #[.int .i64 0,.int .i64 0,.int .i64 0,.string ByteArray.empty,.int .i64 0,.int .i64 0] t)) w.heap.size :=
 ⟨by simp,by simp,by simp,by simp,by simp,by simp,fun o=>by simp,by simp⟩
def tC (w:World) (b:Nat) (x0 x1 x2 x3 x4 x5:Value):World:=(((((w.setCell ⟨b,0,none⟩ x0).setCell ⟨b,1,none⟩ x1).setCell ⟨b,2,none⟩ x2).setCell ⟨b,3,none⟩ x3).setCell ⟨b,4,none⟩ x4).setCell ⟨b,5,none⟩ x5
theorem Z6.put {w:World} {b:Nat} (h:Z6 w b) (x0 x1 x2 x3 x4 x5:Value) :
  (tC w b x0 x1 x2 x3 x4 x5).cell? ⟨b,0,none⟩=some x0/\(tC w b x0 x1 x2 x3 x4 x5).cell? ⟨b,1,none⟩=some x1/\(tC w b x0 x1 x2 x3 x4 x5).cell? ⟨b,2,none⟩=some x2/\(tC w b x0 x1 x2 x3 x4 x5).cell? ⟨b,3,none⟩=some x3/\(tC w b x0 x1 x2 x3 x4 x5).cell? ⟨b,4,none⟩=some x4/\(tC w b x0 x1 x2 x3 x4 x5).cell? ⟨b,5,none⟩=some x5:=by
 obtain⟨c0,c1,c2,c3,c4,c5,f,l⟩:=h
 have n:∀i j:Nat,i≠j->(⟨b,i,none⟩:Addr)≠⟨b,j,none⟩:=fun i j h e=>h (by injection e)
 unfold tC
 refine⟨?_,?_,?_,?_,?_,?_⟩
 ·
  rw[World.cell?_setCell_other (h:=n 5 0 aI),World.cell?_setCell_other (h:=n 4 0 aI),World.cell?_setCell_other (h:=n 3 0 aI),World.cell?_setCell_other (h:=n 2 0 aI),World.cell?_setCell_other (h:=n 1 0 aI),World.cell?_setCell_same (h:=c0)]
 ·
  rw[World.cell?_setCell_other (h:=n 5 1 aI),World.cell?_setCell_other (h:=n 4 1 aI),World.cell?_setCell_other (h:=n 3 1 aI),World.cell?_setCell_other (h:=n 2 1 aI),World.cell?_setCell_same (u:=.int .i64 0) (h:=by rw[World.cell?_setCell_other (h:=n 0 1 aI)];exact c1)]
 ·
  rw[World.cell?_setCell_other (h:=n 5 2 aI),World.cell?_setCell_other (h:=n 4 2 aI),World.cell?_setCell_other (h:=n 3 2 aI),World.cell?_setCell_same (u:=.int .i64 0) (h:=by rw[World.cell?_setCell_other (h:=n 1 2 aI),World.cell?_setCell_other (h:=n 0 2 aI)];exact c2)]
 ·
  rw[World.cell?_setCell_other (h:=n 5 3 aI),World.cell?_setCell_other (h:=n 4 3 aI),World.cell?_setCell_same (u:=.string ByteArray.empty) (h:=by rw[World.cell?_setCell_other (h:=n 2 3 aI),World.cell?_setCell_other (h:=n 1 3 aI),World.cell?_setCell_other (h:=n 0 3 aI)];exact c3)]
 ·
  rw[World.cell?_setCell_other (h:=n 5 4 aI),World.cell?_setCell_same (u:=.int .i64 0) (h:=by rw[World.cell?_setCell_other (h:=n 3 4 aI),World.cell?_setCell_other (h:=n 2 4 aI),World.cell?_setCell_other (h:=n 1 4 aI),World.cell?_setCell_other (h:=n 0 4 aI)];exact c4)]
 ·
  rw[World.cell?_setCell_same (u:=.int .i64 0) (h:=by rw[World.cell?_setCell_other (h:=n 4 5 aI),World.cell?_setCell_other (h:=n 3 5 aI),World.cell?_setCell_other (h:=n 2 5 aI),World.cell?_setCell_other (h:=n 1 5 aI),World.cell?_setCell_other (h:=n 0 5 aI)];exact c5)]
theorem U.tC {w0 w:World} (h:U w0 w) {b:Nat} (hb:w0.heap.size<=b) (x0 x1 x2 x3 x4 x5:Value):U w0 (tC w b x0 x1 x2 x3 x4 x5) :=
 U.set (U.set (U.set (U.set (U.set (U.set h hb x0) hb x1) hb x2) hb x3) hb x4) hb x5
theorem po {P:Program} {fn:Func} {Q:Ending->World->Prop} {ex:Exit} {a:Act} {w:World} {b:Nat} {x0 x1 x2 x3 x4 x5:Value} (h:Z6 w b)
  (H:∀w',w'.cell? ⟨b,0,none⟩=some x0->w'.cell? ⟨b,1,none⟩=some x1->w'.cell? ⟨b,2,none⟩=some x2->w'.cell? ⟨b,3,none⟩=some x3->w'.cell? ⟨b,4,none⟩=some x4->w'.cell? ⟨b,5,none⟩=some x5->(∀w0,U w0 w->w0.heap.size<=b->U w0 w')->bodyPost P fn Q ex a w') :
  bodyPost P fn Q ex a ((((((w.setCell ⟨b,0,none⟩ x0).setCell ⟨b,1,none⟩ x1).setCell ⟨b,2,none⟩ x2).setCell ⟨b,3,none⟩ x3).setCell ⟨b,4,none⟩ x4).setCell ⟨b,5,none⟩ x5):=by
 obtain⟨d0,d1,d2,d3,d4,d5⟩:=h.put x0 x1 x2 x3 x4 x5
 exact H _ d0 d1 d2 d3 d4 d5 fun w0 h0 hb=>U.tC h0 hb x0 x1 x2 x3 x4 x5
end Go.Proofs.YtjngkknbpfgdcaaGreatDoor
namespace Go.Proofs.YtjngkknbpfgdcaaGreatDoor
open Go.ChangeShapes Go.WideShapes Go.RowKit Go.Deep
theorem Pf {w:World} {a:Addr} {v:Value} (h:w.cell? a=some v):a.spot=none/\a.block<w.heap.size:=by
 unfold World.cell? at h
 split at h
 ·
  rename_i c _ _ hb
  refine⟨?_,?_⟩
  ·
   split at h
   ·
    cases h
   ·
    rename_i hs;cases hsp:a.spot with
    | none=>rfl
    | some x=>rw[hsp]at hs;simp at hs
  ·
   rcases Nat.lt_or_ge a.block w.heap.size with h' | h'
   ·
    exact h'
   ·
    rw[Array.getElem?_eq_none h']at hb;cases hb
 ·
  cases h
inductive Y where
 | int (n:Int)
 | str (s:cx)
 | bool (b:Bool)
 | row (k:Nat) (xs:List (List Y))
mutual
def Y.Holds (w:World) (S:Nat->Prop):Y->Value->Prop
 | .int n,v=>v=.int .i64 n/\dT n
 | .str s,v=>v=.string s/\s.size<=maxLen
 | .bool b,v=>v=.bool b
 | .row k xs,v=>∃A c,v=.slice A xs.length c/\xs.length<=c/\c<=maxLen/\(xs≠[]->∃b o,A=some ⟨b,o,none⟩/\S b/\b<w.heap.size/\Y.fz w S k b o xs)
def Y.fz (w:World) (S:Nat->Prop) (k b:Nat):Nat->List (List Y)->Prop
 | _,[]=>True
 | o,ds :: r=>Y.fL w S b o ds/\ds.length=k/\Y.fz w S k b (o+k) r
def Y.fL (w:World) (S:Nat->Prop) (b:Nat):Nat->List Y->Prop
 | _,[]=>True
 | o,d :: r=>(∃u,w.cell? ⟨b,o,none⟩=some u/\Y.Holds w S d u)/\Y.fL w S b (o+1) r
end
def Y.cA (w:World) (S:Nat->Prop):List Y->List Value->Prop
 | [],[]=>True
 | d :: r,v :: vs=>Y.Holds w S d v/\Y.cA w S r vs
 | _,_=>False
def Row (w:World) (S:Nat->Prop) (k:Nat) (A:Option Addr) (c:Nat) (xs:List (List Y)):Prop :=
 xs.length<=c/\c<=maxLen/\(xs≠[]->∃b o,A=some ⟨b,o,none⟩/\S b/\b<w.heap.size/\Y.fz w S k b o xs)
section
variable {w w':World} {S S':Nat->Prop}
theorem Y.fB {k:Nat} {xs:List (List Y)} {v:Value}:(Y.row k xs).Holds w S v↔∃A c,v=.slice A xs.length c/\Row w S k A c xs:=by
 simp only[Y.Holds,Row]
theorem Y.db {n:Int} {v:Value}:(Y.int n).Holds w S v↔v=.int .i64 n/\dT n:=by simp only[Y.Holds]
theorem Y.kc {s:cx} {v:Value}:(Y.str s).Holds w S v↔v=.string s/\s.size<=maxLen:=by simp only[Y.Holds]
theorem Y.wW {b:Bool} {v:Value}:(Y.bool b).Holds w S v↔v=.bool b:=by simp only[Y.Holds]
mutual
theorem Y.Holds.keep (hs:w.heap.size<=w'.heap.size) (hw:∀b o,S b->b<w.heap.size->w'.cell? ⟨b,o,none⟩=w.cell? ⟨b,o,none⟩) (h1:∀b,S b->S' b) :
  ∀(d:Y) (v:Value),d.Holds w S v->d.Holds w' S' v
 | .int n,v,h=>by simpa only[Y.Holds]using h
 | .str s,v,h=>by simpa only[Y.Holds]using h
 | .bool b,v,h=>by simpa only[Y.Holds]using h
 | .row k xs,v,h=>by
  simp only[Y.Holds]at h |-
  obtain⟨A,c,rfl,hl,hc,hx⟩:=h
  refine⟨A,c,rfl,hl,hc,fun iP=>?_⟩
  obtain⟨b,o,rfl,g1,g2,hr⟩:=hx iP
  exact⟨b,o,rfl,h1 b g1,by omega,Y.fz.keep hs hw h1 b g1 g2 xs o hr⟩
theorem Y.fz.keep (hs:w.heap.size<=w'.heap.size) (hw:∀b o,S b->b<w.heap.size->w'.cell? ⟨b,o,none⟩=w.cell? ⟨b,o,none⟩) (h1:∀b,S b->S' b) {k:Nat} (b:Nat) (dE:S b) (gC:b<w.heap.size) :
  ∀(xs:List (List Y)) (o:Nat),Y.fz w S k b o xs->Y.fz w' S' k b o xs
 | [],o,h=>by simp only[Y.fz]
 | ds :: r,o,h=>by
  simp only[Y.fz]at h |-
  exact⟨Y.fL.keep hs hw h1 b dE gC ds o h.1,h.2.1,Y.fz.keep hs hw h1 b dE gC r _ h.2.2⟩
theorem Y.fL.keep (hs:w.heap.size<=w'.heap.size) (hw:∀b o,S b->b<w.heap.size->w'.cell? ⟨b,o,none⟩=w.cell? ⟨b,o,none⟩) (h1:∀b,S b->S' b) (b:Nat) (dE:S b) (gC:b<w.heap.size) :
  ∀(ds:List Y) (o:Nat),Y.fL w S b o ds->Y.fL w' S' b o ds
 | [],o,h=>by simp only[Y.fL]
 | d :: r,o,h=>by
  simp only[Y.fL]at h |-
  obtain⟨⟨u,hu,hd⟩,hr⟩:=h
  exact⟨⟨u,(hw b o dE gC).trans hu,Y.Holds.keep hs hw h1 d u hd⟩,Y.fL.keep hs hw h1 b dE gC r _ hr⟩
end
theorem Y.cA.keep (hs:w.heap.size<=w'.heap.size) (hw:∀b o,S b->b<w.heap.size->w'.cell? ⟨b,o,none⟩=w.cell? ⟨b,o,none⟩) (h1:∀b,S b->S' b) :
  ∀(ds:List Y) (vs:List Value),Y.cA w S ds vs->Y.cA w' S' ds vs
 | [],[],_=>trivial
 | d :: r,v :: vs,h=>⟨Y.Holds.keep hs hw h1 d v h.1,Y.cA.keep hs hw h1 r vs h.2⟩
 | [],_ :: _,h=>h.elim
 | _ :: _,[],h=>h.elim
theorem Row.keep (hs:w.heap.size<=w'.heap.size) (hw:∀b o,S b->b<w.heap.size->w'.cell? ⟨b,o,none⟩=w.cell? ⟨b,o,none⟩) (h1:∀b,S b->S' b) {k:Nat} {A:Option Addr} {c:Nat} {xs:List (List Y)}
  (h:Row w S k A c xs):Row w' S' k A c xs:=by
 obtain⟨hl,hc,hx⟩:=h
 refine⟨hl,hc,fun iP=>?_⟩
 obtain⟨b,o,rfl,g1,g2,hr⟩:=hx iP
 exact⟨b,o,rfl,h1 b g1,by omega,Y.fz.keep hs hw h1 b g1 g2 xs o hr⟩
theorem Y.Holds.de (hb:U w w') {d:Y} {v:Value} (hh:d.Holds w S v):d.Holds w' S v :=
 Y.Holds.keep hb.size (fun b o _ h2=>hb.box b h2 o) (fun _ h=>h) d v hh
theorem Y.cA.de (hb:U w w') {ds:List Y} {vs:List Value} (hh:Y.cA w S ds vs):Y.cA w' S ds vs :=
 Y.cA.keep hb.size (fun b o _ h2=>hb.box b h2 o) (fun _ h=>h) ds vs hh
theorem Row.de (hb:U w w') {k:Nat} {A:Option Addr} {c:Nat} {xs:List (List Y)} (hh:Row w S k A c xs):Row w' S k A c xs :=
 Row.keep hb.size (fun b o _ h2=>hb.box b h2 o) (fun _ h=>h) hh
theorem Row.wide (h1:∀b,S b->S' b) {k:Nat} {A:Option Addr} {c:Nat} {xs:List (List Y)} (hh:Row w S k A c xs):Row w S' k A c xs :=
 Row.keep (Nat.le_refl _) (fun _ _ _ _=>rfl) h1 hh
theorem Y.cA.wide (h1:∀b,S b->S' b) {ds:List Y} {vs:List Value} (hh:Y.cA w S ds vs):Y.cA w S' ds vs :=
 Y.cA.keep (Nat.le_refl _) (fun _ _ _ _=>rfl) h1 ds vs hh
theorem Y.fz.get {k b:Nat}:∀{xs:List (List Y)} {o:Nat},Y.fz w S k b o xs->∀(i:Nat) (AF:i<xs.length),Y.fL w S b (o+i*k) xs[i]/\xs[i].length=k
 | [],_,_,i,h=>absurd h aJ
 | ds :: r,o,h,0,_=>by
  simp only[Y.fz]at h
  simpa using ⟨h.1,h.2.1⟩
 | ds :: r,o,h,i+1,hl=>by
  simp only[Y.fz]at h
  have:=Y.fz.get h.2.2 i (by simpa using hl)
  have e:o+(i+1)*k=o+k+i*k:=by rw[Nat.add_mul];omega
  rw[e]
  simpa using this
theorem Y.fz.mk {k b:Nat}:∀{xs:List (List Y)} {o:Nat},(∀(i:Nat) (AF:i<xs.length),Y.fL w S b (o+i*k) xs[i]/\xs[i].length=k)->Y.fz w S k b o xs
 | [],_,_=>by simp only[Y.fz]
 | ds :: r,o,h=>by
  simp only[Y.fz]
  have h0:=h 0 aJ
  refine⟨by simpa using h0.1,by simpa using h0.2,Y.fz.mk fun i AF=>?_⟩
  have:=h (i+1) (by simpa using AF)
  have e:o+(i+1)*k=o+k+i*k:=by rw[Nat.add_mul];omega
  rw[e]at this
  simpa using this
theorem Y.fL.oY {b:Nat}:∀{ds:List Y} {vs:List Value} {o:Nat},Y.cA w S ds vs->(∀j,j<vs.length->w.cell? ⟨b,o+j,none⟩=vs[j]?)->Y.fL w S b o ds
 | [],_,_,_,_=>by simp only[Y.fL]
 | _ :: _,[],_,h,_=>h.elim
 | d :: r,v :: vs,o,h,hc=>by
  simp only[Y.fL]
  refine⟨⟨v,by simpa using hc 0 aJ,h.1⟩,Y.fL.oY h.2 fun j hj=>?_⟩
  have:=hc (j+1) bA
  rw[show o+(j+1)=o+1+j from by omega]at this
  simpa using this
theorem Y.fL.ux {b:Nat}:∀{ds:List Y} {o:Nat},Y.fL w S b o ds->∃vs:List Value,Y.cA w S ds vs/\vs.length=ds.length/\∀j,j<vs.length->w.cell? ⟨b,o+j,none⟩=vs[j]?
 | [],_,_=>⟨[],trivial,rfl,fun _ h=>absurd h aJ⟩
 | d :: r,o,h=>by
  simp only[Y.fL]at h
  obtain⟨⟨u,hu,hd⟩,hr⟩:=h
  obtain⟨vs,h1,h2,h3⟩:=Y.fL.ux hr
  refine⟨u :: vs,⟨hd,h1⟩,by simp[h2],fun j hj=>?_⟩
  cases j with
  | zero=>simpa using hu
  | succ j =>
   have:=h3 j bA
   rw[show o+1+j=o+(j+1)from by omega]at this
   simpa using this
theorem Y.cA.length:∀{ds:List Y} {vs:List Value},Y.cA w S ds vs->vs.length=ds.length
 | [],[],_=>rfl
 | _ :: _,_ :: _,h=>by simpa using Y.cA.length h.2
 | [],_ :: _,h=>h.elim
 | _ :: _,[],h=>h.elim
theorem Row.at {k:Nat} {A:Option Addr} {c:Nat} {xs:List (List Y)} (h:Row w S k A c xs) (i:Nat) (hi:i<xs.length) :
  ∃b o vs,A=some ⟨b,o,none⟩/\S b/\b<w.heap.size/\Y.cA w S xs[i] vs/\vs.length=k/\∀j,j<k->w.cell? ⟨b,o+i*k+j,none⟩=vs[j]?:=by
 obtain⟨b,o,hA,h1,h2,hr⟩:=h.2.2 (by intro e;rw[e]at hi;simp at hi)
 obtain⟨hc,hl⟩:=hr.get i hi
 obtain⟨vs,g1,g2,g3⟩:=hc.ux
 exact⟨b,o,vs,hA,h1,h2,g1,by omega,fun j hj=>g3 j aF⟩
end
section
variable {H:Type} {enc:TypeId × Value->H} {P:Program} {w:World} {spare:Nat->Bool} {held:Bool}
theorem addr_add {b o i:Nat}:(⟨b,o,none⟩:Addr).add i=⟨b,o+i,none⟩:=by
 unfold Addr.add
 by_cases h:i=0
 ·
  subst h;rfl
 ·
  simp[h]
end
end Go.Proofs.YtjngkknbpfgdcaaGreatDoor
namespace Go.Proofs.YtjngkknbpfgdcaaGreatDoor
open Go.ChangeShapes Go.WideShapes Go.RowKit Go.Deep
theorem WL {α:Type} {l:List α} (h:l.length=13):∃a0 a1 a2 a3 a4 a5 a6 a7 a8 a9 a10 a11 a12,l=[a0,a1,a2,a3,a4,a5,a6,a7,a8,a9,a10,a11,a12]:=by
 match l,h with
 | [a0,a1,a2,a3,a4,a5,a6,a7,a8,a9,a10,a11,a12],_=>exact⟨a0,a1,a2,a3,a4,a5,a6,a7,a8,a9,a10,a11,a12,rfl⟩
inductive nK where
 | mk (Low:Int) (High:Int)
def nK.D:nK->List Y
 | .mk x0 x1=>[.int x0,.int x1]
theorem nK.iM {x0:Int} {x1:Int}:(nK.mk x0 x1).D=[.int x0,.int x1]:=by
 simp only[nK.D]
theorem nK.xW:∀t:nK,t.D.length=2
 | .mk x0 x1=>by rw[nK.iM];rfl
theorem nK.gK {w:World} {S:Nat->Prop} {x0:Int} {x1:Int} {vs:List Value} (h:Y.cA w S (nK.mk x0 x1).D vs):vs=[.int .i64 x0,.int .i64 x1]/\dT x0/\dT x1:=by
 rw[nK.iM]at h
 match vs,h with
 | [u0,u1],h =>
  obtain⟨h0,h1,-⟩:=h
  obtain⟨rfl,g0⟩:=Y.db.1 h0
  obtain⟨rfl,g1⟩:=Y.db.1 h1
  exact⟨rfl,g0,g1⟩
theorem nK.mG {w:World} {S:Nat->Prop} {x0:Int} {x1:Int} (h0:dT x0) (h1:dT x1):Y.cA w S (nK.mk x0 x1).D [.int .i64 x0,.int .i64 x1]:=by
 rw[nK.iM]
 exact⟨Y.db.2 ⟨rfl,h0⟩,Y.db.2 ⟨rfl,h1⟩,trivial⟩
theorem nK.at {w:World} {S:Nat->Prop} {A:Option Addr} {c:Nat} {l:List nK} (h:Row w S 2 A c (l.map nK.D)) (i:Nat) (hi:i<l.length) :
  ∃b o x0 x1,A=some ⟨b,o,none⟩/\S b/\b<w.heap.size/\l[i]=.mk x0 x1/\Y.cA w S l[i].D [.int .i64 x0,.int .i64 x1]/\dT x0/\dT x1/\w.cell? ⟨b,o+i*2,none⟩=some (.int .i64 x0)/\w.cell? ⟨b,o+i*2+1,none⟩=some (.int .i64 x1):=by
 obtain⟨b,o,vs,hA,hS,hb,hv,hl,hc⟩:=Row.at h i bD
 rw[List.getElem_map]at hv
 obtain⟨x0,x1,hx⟩:∃x0 x1,l[i]=.mk x0 x1:=by cases l[i];exact⟨_,_,rfl⟩
 have oZ:=hv
 rw[hx]at oZ
 obtain⟨rfl,g0,g1⟩:=nK.gK oZ
 exact⟨b,o,_,_,hA,hS,hb,hx,hv,g0,g1,by simpa using hc 0 aI,by simpa using hc 1 aI⟩
inductive eG where
 | mk (Op:Int) (Text:cx) (Number:Int) (aaf:Int) (Ul:Int) (Kids:List eG)
mutual
def eG.D:eG->List Y
 | .mk x0 x1 x2 x3 x4 x5=>[.int x0,.str x1,.int x2,.int x3,.int x4,.row 6 (eG.Ds x5)]
def eG.Ds:List eG->List (List Y)
 | []=>[]
 | x :: r=>eG.D x :: eG.Ds r
end
theorem eG.Gr:∀l,eG.Ds l=l.map eG.D
 | []=>by simp[eG.Ds]
 | x :: r=>by simp[eG.Ds,eG.Gr r]
theorem eG.iM {x0:Int} {x1:cx} {x2:Int} {x3:Int} {x4:Int} {x5:List eG}:(eG.mk x0 x1 x2 x3 x4 x5).D=[.int x0,.str x1,.int x2,.int x3,.int x4,.row 6 (x5.map eG.D)]:=by
 simp only[eG.D,eG.Gr]
theorem eG.xW:∀t:eG,t.D.length=6
 | .mk x0 x1 x2 x3 x4 x5=>by rw[eG.iM];rfl
theorem eG.gK {w:World} {S:Nat->Prop} {x0:Int} {x1:cx} {x2:Int} {x3:Int} {x4:Int} {x5:List eG} {vs:List Value} (h:Y.cA w S (eG.mk x0 x1 x2 x3 x4 x5).D vs):∃AG AH,vs=[.int .i64 x0,.string x1,.int .i64 x2,.int .i64 x3,.int .i64 x4,.slice AG x5.length AH]/\dT x0/\x1.size<=maxLen/\dT x2/\dT x3/\dT x4/\Row w S 6 AG AH (x5.map eG.D):=by
 rw[eG.iM]at h
 match vs,h with
 | [u0,u1,u2,u3,u4,u5],h =>
  obtain⟨h0,h1,h2,h3,h4,h5,-⟩:=h
  obtain⟨rfl,g0⟩:=Y.db.1 h0
  obtain⟨rfl,g1⟩:=Y.kc.1 h1
  obtain⟨rfl,g2⟩:=Y.db.1 h2
  obtain⟨rfl,g3⟩:=Y.db.1 h3
  obtain⟨rfl,g4⟩:=Y.db.1 h4
  obtain⟨AG,AH,rfl,g5⟩:=Y.fB.1 h5
  exact⟨AG,AH,by simp only[ar],g0,g1,g2,g3,g4,g5⟩
theorem eG.mG {w:World} {S:Nat->Prop} {x0:Int} {x1:cx} {x2:Int} {x3:Int} {x4:Int} {x5:List eG} {AG:Option Addr} {AH:Nat} (h0:dT x0) (h1:x1.size<=maxLen) (h2:dT x2) (h3:dT x3) (h4:dT x4) (h5:Row w S 6 AG AH (x5.map eG.D)):Y.cA w S (eG.mk x0 x1 x2 x3 x4 x5).D [.int .i64 x0,.string x1,.int .i64 x2,.int .i64 x3,.int .i64 x4,.slice AG x5.length AH]:=by
 rw[eG.iM]
 exact⟨Y.db.2 ⟨rfl,h0⟩,Y.kc.2 ⟨rfl,h1⟩,Y.db.2 ⟨rfl,h2⟩,Y.db.2 ⟨rfl,h3⟩,Y.db.2 ⟨rfl,h4⟩,Y.fB.2 ⟨_,_,by simp only[ar],h5⟩,trivial⟩
theorem eG.at {w:World} {S:Nat->Prop} {A:Option Addr} {c:Nat} {l:List eG} (h:Row w S 6 A c (l.map eG.D)) (i:Nat) (hi:i<l.length) :
  ∃b o x0 x1 x2 x3 x4 x5 AG AH,A=some ⟨b,o,none⟩/\S b/\b<w.heap.size/\l[i]=.mk x0 x1 x2 x3 x4 x5/\Y.cA w S l[i].D [.int .i64 x0,.string x1,.int .i64 x2,.int .i64 x3,.int .i64 x4,.slice AG x5.length AH]/\dT x0/\x1.size<=maxLen/\dT x2/\dT x3/\dT x4/\Row w S 6 AG AH (x5.map eG.D)/\w.cell? ⟨b,o+i*6,none⟩=some (.int .i64 x0)/\w.cell? ⟨b,o+i*6+1,none⟩=some (.string x1)/\w.cell? ⟨b,o+i*6+2,none⟩=some (.int .i64 x2)/\w.cell? ⟨b,o+i*6+3,none⟩=some (.int .i64 x3)/\w.cell? ⟨b,o+i*6+4,none⟩=some (.int .i64 x4)/\w.cell? ⟨b,o+i*6+5,none⟩=some (.slice AG x5.length AH):=by
 obtain⟨b,o,vs,hA,hS,hb,hv,hl,hc⟩:=Row.at h i bD
 rw[List.getElem_map]at hv
 obtain⟨x0,x1,x2,x3,x4,x5,hx⟩:∃x0 x1 x2 x3 x4 x5,l[i]=.mk x0 x1 x2 x3 x4 x5:=by cases l[i];exact⟨_,_,_,_,_,_,rfl⟩
 have oZ:=hv
 rw[hx]at oZ
 obtain⟨AG,AH,rfl,g0,g1,g2,g3,g4,g5⟩:=eG.gK oZ
 exact⟨b,o,_,_,_,_,_,_,_,_,hA,hS,hb,hx,hv,g0,g1,g2,g3,g4,g5,by simpa using hc 0 aI,by simpa using hc 1 aI,by simpa using hc 2 aI,by simpa using hc 3 aI,by simpa using hc 4 aI,by simpa using hc 5 aI⟩
inductive iQ where
 | mk (Kind:Int) (Op:Int) (Number:Int) (Line:Int) (Text:cx) (Kids:List iQ)
mutual
def iQ.D:iQ->List Y
 | .mk x0 x1 x2 x3 x4 x5=>[.int x0,.int x1,.int x2,.int x3,.str x4,.row 6 (iQ.Ds x5)]
def iQ.Ds:List iQ->List (List Y)
 | []=>[]
 | x :: r=>iQ.D x :: iQ.Ds r
end
theorem iQ.Gr:∀l,iQ.Ds l=l.map iQ.D
 | []=>by simp[iQ.Ds]
 | x :: r=>by simp[iQ.Ds,iQ.Gr r]
theorem iQ.iM {x0:Int} {x1:Int} {x2:Int} {x3:Int} {x4:cx} {x5:List iQ}:(iQ.mk x0 x1 x2 x3 x4 x5).D=[.int x0,.int x1,.int x2,.int x3,.str x4,.row 6 (x5.map iQ.D)]:=by
 simp only[iQ.D,iQ.Gr]
theorem iQ.xW:∀t:iQ,t.D.length=6
 | .mk x0 x1 x2 x3 x4 x5=>by rw[iQ.iM];rfl
theorem iQ.gK {w:World} {S:Nat->Prop} {x0:Int} {x1:Int} {x2:Int} {x3:Int} {x4:cx} {x5:List iQ} {vs:List Value} (h:Y.cA w S (iQ.mk x0 x1 x2 x3 x4 x5).D vs):∃AG AH,vs=[.int .i64 x0,.int .i64 x1,.int .i64 x2,.int .i64 x3,.string x4,.slice AG x5.length AH]/\dT x0/\dT x1/\dT x2/\dT x3/\x4.size<=maxLen/\Row w S 6 AG AH (x5.map iQ.D):=by
 rw[iQ.iM]at h
 match vs,h with
 | [u0,u1,u2,u3,u4,u5],h =>
  obtain⟨h0,h1,h2,h3,h4,h5,-⟩:=h
  obtain⟨rfl,g0⟩:=Y.db.1 h0
  obtain⟨rfl,g1⟩:=Y.db.1 h1
  obtain⟨rfl,g2⟩:=Y.db.1 h2
  obtain⟨rfl,g3⟩:=Y.db.1 h3
  obtain⟨rfl,g4⟩:=Y.kc.1 h4
  obtain⟨AG,AH,rfl,g5⟩:=Y.fB.1 h5
  exact⟨AG,AH,by simp only[ar],g0,g1,g2,g3,g4,g5⟩
theorem iQ.mG {w:World} {S:Nat->Prop} {x0:Int} {x1:Int} {x2:Int} {x3:Int} {x4:cx} {x5:List iQ} {AG:Option Addr} {AH:Nat} (h0:dT x0) (h1:dT x1) (h2:dT x2) (h3:dT x3) (h4:x4.size<=maxLen) (h5:Row w S 6 AG AH (x5.map iQ.D)):Y.cA w S (iQ.mk x0 x1 x2 x3 x4 x5).D [.int .i64 x0,.int .i64 x1,.int .i64 x2,.int .i64 x3,.string x4,.slice AG x5.length AH]:=by
 rw[iQ.iM]
 exact⟨Y.db.2 ⟨rfl,h0⟩,Y.db.2 ⟨rfl,h1⟩,Y.db.2 ⟨rfl,h2⟩,Y.db.2 ⟨rfl,h3⟩,Y.kc.2 ⟨rfl,h4⟩,Y.fB.2 ⟨_,_,by simp only[ar],h5⟩,trivial⟩
theorem iQ.at {w:World} {S:Nat->Prop} {A:Option Addr} {c:Nat} {l:List iQ} (h:Row w S 6 A c (l.map iQ.D)) (i:Nat) (hi:i<l.length) :
  ∃b o x0 x1 x2 x3 x4 x5 AG AH,A=some ⟨b,o,none⟩/\S b/\b<w.heap.size/\l[i]=.mk x0 x1 x2 x3 x4 x5/\Y.cA w S l[i].D [.int .i64 x0,.int .i64 x1,.int .i64 x2,.int .i64 x3,.string x4,.slice AG x5.length AH]/\dT x0/\dT x1/\dT x2/\dT x3/\x4.size<=maxLen/\Row w S 6 AG AH (x5.map iQ.D)/\w.cell? ⟨b,o+i*6,none⟩=some (.int .i64 x0)/\w.cell? ⟨b,o+i*6+1,none⟩=some (.int .i64 x1)/\w.cell? ⟨b,o+i*6+2,none⟩=some (.int .i64 x2)/\w.cell? ⟨b,o+i*6+3,none⟩=some (.int .i64 x3)/\w.cell? ⟨b,o+i*6+4,none⟩=some (.string x4)/\w.cell? ⟨b,o+i*6+5,none⟩=some (.slice AG x5.length AH):=by
 obtain⟨b,o,vs,hA,hS,hb,hv,hl,hc⟩:=Row.at h i bD
 rw[List.getElem_map]at hv
 obtain⟨x0,x1,x2,x3,x4,x5,hx⟩:∃x0 x1 x2 x3 x4 x5,l[i]=.mk x0 x1 x2 x3 x4 x5:=by cases l[i];exact⟨_,_,_,_,_,_,rfl⟩
 have oZ:=hv
 rw[hx]at oZ
 obtain⟨AG,AH,rfl,g0,g1,g2,g3,g4,g5⟩:=iQ.gK oZ
 exact⟨b,o,_,_,_,_,_,_,_,_,hA,hS,hb,hx,hv,g0,g1,g2,g3,g4,g5,by simpa using hc 0 aI,by simpa using hc 1 aI,by simpa using hc 2 aI,by simpa using hc 3 aI,by simpa using hc 4 aI,by simpa using hc 5 aI⟩
end Go.Proofs.YtjngkknbpfgdcaaGreatDoor
namespace Go.Proofs.YtjngkknbpfgdcaaGreatDoor
open Go.RowKit
def nN (cur:Array Value):Nat->List Value->Array Value
 | _,[]=>cur
 | o,v :: r=>nN (cur.setIfInBounds o v) (o+1) r
theorem tD:∀(vs:List Value) (o:Nat) (cur:Array Value),(nN cur o vs).size=cur.size
 | [],_,_=>rfl
 | v :: r,o,cur=>by rw[nN,tD r];simp
theorem sA:∀(vs:List Value) (o:Nat) (cur:Array Value) (i:Nat),i<o\/o+vs.length<=i->(nN cur o vs)[i]?=cur[i]?
 | [],_,_,_,_=>rfl
 | v :: r,o,cur,i,h=>by
  rw[nN,sA r (o+1) _ i (by simp at h;omega),Array.getElem?_setIfInBounds_ne (by simp at h;omega)]
theorem yQ:∀(vs:List Value) (o:Nat) (cur:Array Value) (l:Nat),l<vs.length->o+vs.length<=cur.size->(nN cur o vs)[o+l]?=vs[l]?
 | [],_,_,_,h,_=>absurd h aJ
 | v :: r,o,cur,0,_,hs=>by
  rw[nN,sA r (o+1) _ (o+0) aF]
  simp at hs
  simp[Array.getElem?_setIfInBounds]
  omega
 | v :: r,o,cur,l+1,h,hs=>by
  rw[nN,show o+(l+1)=(o+1)+l by omega,yQ r (o+1) _ l bR (by simp at hs |-;omega)]
  simp
theorem qQ {g:Nat} {E:TypeId} {f:Nat × Nat}:∀(vs:List Value) (o:Nat) (w:World) (cur:Array Value),w.heap[g]?=some (.cells cur E f)->(w.setCells g o vs).heap[g]?=some (.cells (nN cur o vs) E f)
 | [],_,_,_,h=>h
 | v :: r,o,w,cur,h=>by
  rw[World.setCells,nN]
  refine qQ r (o+1) _ _ ?_
  simp[World.setCell,Array.getElem?_modify,h]
theorem nh {g b:Nat} (hb:b≠g):∀(vs:List Value) (o:Nat) (w:World),(w.setCells g o vs).heap[b]?=w.heap[b]?
 | [],_,_=>rfl
 | v :: r,o,w=>by
  rw[World.setCells,nh hb r (o+1)]
  exact Below.heap_setCell w ⟨g,o,none⟩ v b hb
theorem lk {g:Nat}:∀(vs:List Value) (o:Nat) (w:World),(w.setCells g o vs).heap.size=w.heap.size
 | [],_,_=>rfl
 | v :: r,o,w=>by
  rw[World.setCells,lk r (o+1)]
  simp
theorem U.setCells {a:World} {g:Nat} (hg:a.heap.size<=g):∀(vs:List Value) (o:Nat) (b:World),U a b->U a (b.setCells g o vs)
 | [],_,_,h=>h
 | v :: r,o,b,h=>by
  rw[World.setCells]
  exact U.setCells hg r (o+1) _ (h.set (p:=⟨g,o,none⟩) hg v)
structure EX (S:Nat->Prop) (w w':World):Prop where
 size:w.heap.size<=w'.heap.size
 cell:∀b o,S b->b<w.heap.size->w'.cell? ⟨b,o,none⟩=w.cell? ⟨b,o,none⟩
namespace EX
variable {S:Nat->Prop} {a b c:World}
theorem refl (S:Nat->Prop) (w:World):EX S w w:=⟨Nat.le_refl _,fun _ _ _ _=>rfl⟩
theorem trans (h:EX S a b) (k:EX S b c):EX S a c:=⟨aw h.size k.size,fun i o hS hi=>(k.cell i o hS (au hi h.size)).trans (h.cell i o hS hi)⟩
theorem dH (S:Nat->Prop) (h:U a b):EX S a b:=⟨U.size h,fun i o _ hi=>h.box i hi o⟩
theorem de (h:EX S a b) (k:U b c):EX S a c:=h.trans (dH S k)
theorem alloc (h:EX S a b) (o:Obj):EX S a (b.alloc o):=h.de (U.alloc (U.refl _) o)
theorem drew (h:EX S a b):EX S a b.drew:=h.de (U.drew (U.refl _))
theorem drewN (h:EX S a b) (n:Nat):EX S a (b.drewN n):=h.de (U.drewN (U.refl _) n)
theorem set (h:EX S a b) {p:Addr} (hp:¬S p.block) (v:Value):EX S a (b.setCell p v) :=
 h.trans ⟨by simp,fun i o hS hi=>World.cell?_setCell_other b p ⟨i,o,none⟩ v (fun e=>hp (by rw[e];exact hS))⟩
end EX
theorem Row.off {S:Nat->Prop} {w w':World} (h:EX S w w') {k:Nat} {A:Option Addr} {c:Nat} {xs:List (List Y)} (hh:Row w S k A c xs):Row w' S k A c xs:=Row.keep h.size h.cell (fun _ h=>h) hh
theorem Y.cA.off {S:Nat->Prop} {w w':World} (h:EX S w w') {ds:List Y} {vs:List Value} (hh:Y.cA w S ds vs):Y.cA w' S ds vs:=Y.cA.keep h.size h.cell (fun _ h=>h) ds vs hh
def qR (w:World) (g:Nat) (E:TypeId) (k n:Nat) (S:Nat->Prop) (ds:List (List Y)):Prop :=
 ds.length<=n/\∃cur,w.heap[g]?=some (.cells cur E (0,0))/\cur.size=n*k/\∀(j:Nat) (h:j<ds.length),∃vs,Y.cA w S ds[j] vs/\vs.length=k/\∀l,l<k->cur[j*k+l]?=vs[l]?
section
variable {w w':World} {g:Nat} {E:TypeId} {k n:Nat} {S:Nat->Prop} {ds:List (List Y)}
theorem qR.start (w:World) (E:TypeId) (k n:Nat) (S:Nat->Prop) {cur:Array Value} (h:cur.size=n*k):qR (w.alloc (.cells cur E)) w.heap.size E k n S [] :=
 ⟨by simp,cur,heap_alloc_new w _,h,fun j hj=>absurd hj aJ⟩
theorem qR.lt (h:qR w g E k n S ds):g<w.heap.size:=by
 obtain⟨_,cur,hc,_⟩:=h
 rcases Nat.lt_or_ge g w.heap.size with h' | h'
 ·
  exact h'
 ·
  rw[Array.getElem?_eq_none h']at hc;cases hc
theorem qR.de (h:qR w g E k n S ds) (hb:U w w'):qR w' g E k n S ds:=by
 have hl:=h.lt
 obtain⟨h0,cur,hc,hs,hj⟩:=h
 refine⟨h0,cur,(Below.block hb g hl).trans hc,hs,fun j vw=>?_⟩
 obtain⟨vs,g1,g2⟩:=hj j vw
 exact⟨vs,g1.de hb,g2⟩
theorem qR.cell (h:qR w g E k n S ds) {i:Nat} (hi:i<n*k):∃u,w.cell? ⟨g,i,none⟩=some u:=by
 obtain⟨h0,cur,hc,hs,hj⟩:=h
 refine⟨cur[i]' aF,?_⟩
 rw[cell_of_row w g i cur E (0,0) hc]
 exact Array.getElem?_eq_getElem aF
theorem qR.free (h:qR w g E k n S ds) (i:Nat):w.frozen? ⟨g,i,none⟩=false:=by
 obtain⟨h0,cur,hc,hs,hj⟩:=h
 simp[World.frozen?,hc]
theorem qR.put (h:qR w g E k n S ds) (hn:ds.length<n) (hS:∀b,S b->b≠g) {d:List Y} {vs:List Value} (hv:Y.cA w S d vs) (hk:vs.length=k):qR (w.setCells g (ds.length*k) vs) g E k n S (ds++[d]):=by
 obtain⟨h0,cur,hc,hs,hj⟩:=h
 have hle:ds.length*k+k<=n*k:=by rw[<-Nat.succ_mul];exact Nat.mul_le_mul_right k hn
 have keep:∀(d:List Y) (vs':List Value),Y.cA w S d vs'->Y.cA (w.setCells g (ds.length*k) vs) S d vs':=fun d vs' hd =>
  Y.cA.keep (by rw[lk];exact Nat.le_refl _) (fun b o hb _=>World.cell?_of_block (nh (hS b hb) vs _ w)) (fun _ h=>h) d vs' hd
 refine⟨by simp;omega,nN cur (ds.length*k) vs,qQ vs _ w cur hc,by rw[tD];exact hs,fun j vw=>?_⟩
 by_cases e:j<ds.length
 ·
  rw[List.getElem_append_left e]
  obtain⟨vs',g1,g2,g3⟩:=hj j e
  refine⟨vs',keep _ _ g1,g2,fun l hl=>?_⟩
  have:j*k+k<=ds.length*k:=by rw[<-Nat.succ_mul];exact Nat.mul_le_mul_right k e
  rw[sA _ _ _ _ aF]
  exact g3 l hl
 ·
  obtain rfl:j=ds.length:=by simp at vw;omega
  refine⟨vs,by simpa using keep _ _ hv,hk,fun l hl=>?_⟩
  exact yQ vs _ cur l aF aF
theorem qR.row (h:qR w g E k n S ds) (hn:ds.length=n) (hm:n<=maxLen) {S':Nat->Prop} (hS:∀b,S b->S' b) (hg:S' g):Row w S' k (some ⟨g,0,none⟩) n ds:=by
 have jP:=h.lt
 obtain⟨h0,cur,hc,hs,hj⟩:=h
 refine⟨h0,hm,fun _=>⟨g,0,rfl,hg,jP,Y.fz.mk fun j vw=>?_⟩⟩
 obtain⟨vs,g1,g2,g3⟩:=hj j vw
 refine⟨Y.fL.oY (g1.wide hS) fun l hl=>?_,by rw[<-g1.length];exact g2⟩
 rw[cell_of_row w g _ cur E (0,0) hc,<-g3 l aF]
 congr 1
 omega
end
theorem DE {α:Type} {l:List α} {j:Nat} (h:j<l.length):l.take (j+1)=l.take j++[l[j]]:=by
 rw[List.take_succ_eq_append_getElem h]
theorem qR.snoc {α:Type} {D:α->List Y} {l:List α} {w:World} {g:Nat} {E:TypeId} {k n j:Nat} {S S1:Nat->Prop} (h:qR w g E k n S ((l.map D).take j)) (hj:j<l.length) (hn:l.length=n) (hS:∀b,S b->b≠g)
  {vs:List Value} (hv:Y.cA w S1 (D l[j]) vs) (h1:∀b,S1 b->S b) (hk:vs.length=k):qR (w.setCells g (j*k) vs) g E k n S ((l.map D).take (j+1)):=by
 have hlen:((l.map D).take j).length=j:=aH
 have:=h.put (by rw[hlen];omega) hS (hv.wide h1) hk
 rw[hlen]at this
 rw[DE bA,List.getElem_map]
 exact this
theorem qR.done {α:Type} {D:α->List Y} {l:List α} {w:World} {g:Nat} {E:TypeId} {k n j:Nat} {S S':Nat->Prop} (h:qR w g E k n S ((l.map D).take j)) (hj:l.length<=j) (hn:l.length=n) (hm:n<=maxLen) (hS:∀b,S b->S' b) (hg:S' g) :
  Row w S' k (some ⟨g,0,none⟩) n (l.map D):=by
 rw[List.take_of_length_le bA]at h
 exact h.row (by simpa using hn) hm hS hg
def adW (w:World) (k:Nat) (xs:List (List Y)) (e:Ending) (w':World):Prop :=
 ∃A c,e=.returned (.slice A xs.length c)/\Row w' (fun b=>w.heap.size<=b) k A c xs/\U w w'
end Go.Proofs.YtjngkknbpfgdcaaGreatDoor
namespace Go.Proofs.YtjngkknbpfgdcaaGreatDoor
open Go.RowKit
theorem Gs {P:Program} {f:FuncId} {args:Array Value} {w:World} {n:Nat} {v:Value}
  (h:Calls P f args (w.drewN n) fun e w'=>e=.returned v/\w.drewN n=w'):Calls P f args (w.drewN n) fun e w''=>e=.returned v/\∃m,w''=w.drewN m :=
 Calls.quiet_of_same (h.mono fun _ _ ⟨a,b⟩=>⟨a,b.symm⟩)
section
variable {P:Program} {ops:Array Oper} {Q:Exit->Act->World->Prop} {md:Region.Mode} {S:World->Prop}
theorem ev {oi:Oper} {v:Value} {fuel:Nat} {listed l':Array Bool} {a a':Act} {w:World} (i:Nat) (h:wpAnyH P md ops Q S fuel l' a' w)
  (hi:ops[i]?=some oi:=by rfl) (hs:Region.noSelect ops=true:=by kernel_rfl) (hf:Region.free md ops listed i=true:=by kernel_rfl) (hr:(Region.ready md ops listed).contains i=true:=by kernel_rfl)
  (hw:Region.wanted oi (yielded ops a.tmps)=true:=by rfl)
  (hv:∀w,S w->(execOp a.eval oi).run P w=.ok (.value v) w:=by intro w hSw;(try dsimp only at hSw);go_simp;(try with_reducible rfl))
  (hl:listed.setIfInBounds i true=l':=by first | (simp only[aa,ab,ae];exact rfl) | exact rfl)
  (ha:a.put oi.dst v=a':=by simp only[Act.put,aa,ab,ae,af,ag,aj];exact rfl)
  (hQ:∀c a w,Q (.panic c) (a.put oi.dst v) w->Q (.panic c) a w:=by exact fun _ _ _ h=>h) (hS:S w:=by assumption):wpAnyH P md ops Q S (fuel+1) listed a w:=by
 subst hl ha
 exact wpAnyH_take hi hs hf hr hQ (Or.inl ⟨hw,hv⟩) hS h
theorem sO {oi:Oper} {fuel:Nat} {listed l':Array Bool} {a a':Act} {w:World} (i:Nat) (h:wpAnyH P md ops Q S fuel l' a' w)
  (hi:ops[i]?=some oi:=by rfl) (hs:Region.noSelect ops=true:=by kernel_rfl) (hf:Region.free md ops listed i=true:=by kernel_rfl) (hr:(Region.ready md ops listed).contains i=true:=by kernel_rfl)
  (hw:Region.wanted oi (yielded ops a.tmps)=false:=by rfl)
  (hl:listed.setIfInBounds i true=l':=by first | (simp only[aa,ab,ae];exact rfl) | exact rfl)
  (ha:a.put oi.dst undef=a':=by simp only[Act.put,aa,ab,ae,af,ag,aj];exact rfl)
  (hQ:∀c a w,Q (.panic c) (a.put oi.dst undef) w->Q (.panic c) a w:=by exact fun _ _ _ h=>h) (hS:S w:=by assumption):wpAnyH P md ops Q S (fuel+1) listed a w:=by
 subst hl ha
 exact wpAnyH_take hi hs hf hr hQ (Or.inr ⟨hw,rfl⟩) hS h
end
end Go.Proofs.YtjngkknbpfgdcaaGreatDoor
